/- Texts that the law's proof needs, joined by a program of this session. -/
import Derived.Test.YtpmflpeckoeooaaGreatDoorZSyntaxParses1
import Derived.Test.YtpmflpeckoeooaaGreatDoorZSyntaxParses2
import Derived.Test.YtpmflpeckoeooaaGreatDoorZSyntaxParses7
import Derived.Test.YtpmflpeckoeooaaGreatDoorZSyntaxParses8
set_option maxHeartbeats 8000000
set_option maxRecDepth 100000
set_option linter.unusedSimpArgs false
set_option linter.unusedVariables false
namespace Go.Proofs.YtpmflpeckoeooaaGreatDoor.X
open Go.RowKit Go.Proofs.YtpmflpeckoeooaaGreatDoorW.PrintWords Go.Proofs.YtpmflpeckoeooaaGreatDoorW.PrintLast Go.Proofs.YtpmflpeckoeooaaGreatDoorW.PrintMore
attribute [local go_sem] ez ea gJ iY dq ir cv ia ic iU iV gz gA ib ie
mutual
def bM : Nat → ByteArray → Int → Int → Int → Int → Int → Int → Int → Int → Int → Int → Option (Int × Int × Int × Int × Int × Int × Int × Int × Bool)
  | 0, _, _, _, _, _, _, _, _, _, _, _ => none
  | k + 1, x0, x5, x6, Aa, Ab, Ac, Ad, Ae, Af, Ag, Ah => if (wrap64 (x6 + 1)) < (x0.size : Int) then (if x5 < 0 then (if 0 ≤ x6 then (if x6 ≤ (wrap64 (x6 + 2)) then (if (wrap64 (x6 + 2)) ≤ (x0.size : Int) then (if (x0.extract (x6 : Int).toNat ((wrap64 (x6 + 2)) : Int).toNat).toList = ([58, 58] : List UInt8) then (bM k x0 x6 (wrap64 (x6 + 1)) Aa Ab Ac Ad Ae Af Ag Ah) else (bM k x0 x5 (wrap64 (x6 + 1)) Aa Ab Ac Ad Ae Af Ag Ah)) else (none)) else (none)) else (none)) else (bM k x0 x5 (wrap64 (x6 + 1)) Aa Ab Ac Ad Ae Af Ag Ah)) else (if x5 < 0 then ((et k x0).bind fun Ak => (if Ak.2 = true then (dQ k Ak.1 ((Ak.1.length : Int) != 8) Aa Ab Ac Ad Ae Af Ag Ah) else (dQ k Ak.1 true Aa Ab Ac Ad Ae Af Ag Ah))) else (if 0 ≤ x5 then (if x5 ≤ (x0.size : Int) then ((et k (x0.extract 0 (x5 : Int).toNat)).bind fun Ai => (if 0 ≤ (wrap64 (x5 + 2)) then (if (wrap64 (x5 + 2)) ≤ (x0.size : Int) then ((et k (x0.extract ((wrap64 (x5 + 2)) : Int).toNat x0.size)).bind fun Aj => (if Ai.2 = true then (if Aj.2 = true then (dc k x0 x5 Ai.1 Aj.1 (decide ((wrap64 ((Ai.1.length : Int) + (Aj.1.length : Int))) > 7)) Aa Ab Ac Ad Ae Af Ag Ah) else (dc k x0 x5 Ai.1 Aj.1 true Aa Ab Ac Ad Ae Af Ag Ah)) else (dc k x0 x5 Ai.1 Aj.1 true Aa Ab Ac Ad Ae Af Ag Ah))) else (none)) else (none))) else (none)) else (none)))
def dQ : Nat → List Int → Bool → Int → Int → Int → Int → Int → Int → Int → Int → Option (Int × Int × Int × Int × Int × Int × Int × Int × Bool)
  | 0, _, _, _, _, _, _, _, _, _, _ => none
  | k + 1, x7, Ai, Aa, Ab, Ac, Ad, Ae, Af, Ag, Ah => if Ai = true then (some (Aa, Ab, Ac, Ad, Ae, Af, Ag, Ah, false)) else (bo k x7 0 Aa Ab Ac Ad Ae Af Ag Ah)
def bo : Nat → List Int → Int → Int → Int → Int → Int → Int → Int → Int → Int → Option (Int × Int × Int × Int × Int × Int × Int × Int × Bool)
  | 0, _, _, _, _, _, _, _, _, _, _ => none
  | k + 1, x7, x9, Aa, Ab, Ac, Ad, Ae, Af, Ag, Ah => if x9 < 8 then (if 0 ≤ x9 then (if x9 < (x7.length : Int) then (if x9 = 0 then (bo k x7 (wrap64 (x9 + 1)) (rd x7 x9) Ab Ac Ad Ae Af Ag Ah) else (if x9 = 1 then (bo k x7 (wrap64 (x9 + 1)) Aa (rd x7 x9) Ac Ad Ae Af Ag Ah) else (if x9 = 2 then (bo k x7 (wrap64 (x9 + 1)) Aa Ab (rd x7 x9) Ad Ae Af Ag Ah) else (if x9 = 3 then (bo k x7 (wrap64 (x9 + 1)) Aa Ab Ac (rd x7 x9) Ae Af Ag Ah) else (if x9 = 4 then (bo k x7 (wrap64 (x9 + 1)) Aa Ab Ac Ad (rd x7 x9) Af Ag Ah) else (if x9 = 5 then (bo k x7 (wrap64 (x9 + 1)) Aa Ab Ac Ad Ae (rd x7 x9) Ag Ah) else (if x9 = 6 then (bo k x7 (wrap64 (x9 + 1)) Aa Ab Ac Ad Ae Af (rd x7 x9) Ah) else (if x9 = 7 then (bo k x7 (wrap64 (x9 + 1)) Aa Ab Ac Ad Ae Af Ag (rd x7 x9)) else (none))))))))) else (none)) else (none)) else (some (Aa, Ab, Ac, Ad, Ae, Af, Ag, Ah, true))
def dc : Nat → ByteArray → Int → List Int → List Int → Bool → Int → Int → Int → Int → Int → Int → Int → Int → Option (Int × Int × Int × Int × Int × Int × Int × Int × Bool)
  | 0, _, _, _, _, _, _, _, _, _, _, _, _, _ => none
  | k + 1, x0, x5, Aj, Ak, Al, Aa, Ab, Ac, Ad, Ae, Af, Ag, Ah => if Al = true then (some (Aa, Ab, Ac, Ad, Ae, Af, Ag, Ah, false)) else (if x5 > 0 then (if 0 ≤ x5 then (if x5 ≤ (x0.size : Int) then ((aQ k 46 (x0.extract 0 (x5 : Int).toNat)).bind fun Ai => (dd k Aj Ak Ai Aa Ab Ac Ad Ae Af Ag Ah)) else (none)) else (none)) else (dd k Aj Ak false Aa Ab Ac Ad Ae Af Ag Ah))
def dd : Nat → List Int → List Int → Bool → Int → Int → Int → Int → Int → Int → Int → Int → Option (Int × Int × Int × Int × Int × Int × Int × Int × Bool)
  | 0, _, _, _, _, _, _, _, _, _, _, _ => none
  | k + 1, Ai, Aj, Ak, Aa, Ab, Ac, Ad, Ae, Af, Ag, Ah => if Ak = true then (some (Aa, Ab, Ac, Ad, Ae, Af, Ag, Ah, false)) else (bp k Ai Aj 0 Aa Ab Ac Ad Ae Af Ag Ah)
def bp : Nat → List Int → List Int → Int → Int → Int → Int → Int → Int → Int → Int → Int → Option (Int × Int × Int × Int × Int × Int × Int × Int × Bool)
  | 0, _, _, _, _, _, _, _, _, _, _, _ => none
  | k + 1, Aj, Ak, Ai, Aa, Ab, Ac, Ad, Ae, Af, Ag, Ah => if Ai < (Aj.length : Int) then (if 0 ≤ Ai then (if Ai = 0 then (bp k Aj Ak (wrap64 (Ai + 1)) (rd Aj Ai) Ab Ac Ad Ae Af Ag Ah) else (if Ai = 1 then (bp k Aj Ak (wrap64 (Ai + 1)) Aa (rd Aj Ai) Ac Ad Ae Af Ag Ah) else (if Ai = 2 then (bp k Aj Ak (wrap64 (Ai + 1)) Aa Ab (rd Aj Ai) Ad Ae Af Ag Ah) else (if Ai = 3 then (bp k Aj Ak (wrap64 (Ai + 1)) Aa Ab Ac (rd Aj Ai) Ae Af Ag Ah) else (if Ai = 4 then (bp k Aj Ak (wrap64 (Ai + 1)) Aa Ab Ac Ad (rd Aj Ai) Af Ag Ah) else (if Ai = 5 then (bp k Aj Ak (wrap64 (Ai + 1)) Aa Ab Ac Ad Ae (rd Aj Ai) Ag Ah) else (if Ai = 6 then (bp k Aj Ak (wrap64 (Ai + 1)) Aa Ab Ac Ad Ae Af (rd Aj Ai) Ah) else (if Ai = 7 then (bp k Aj Ak (wrap64 (Ai + 1)) Aa Ab Ac Ad Ae Af Ag (rd Aj Ai)) else (none))))))))) else (none)) else (al k Ak 0 Aa Ab Ac Ad Ae Af Ag Ah)
def al : Nat → List Int → Int → Int → Int → Int → Int → Int → Int → Int → Int → Option (Int × Int × Int × Int × Int × Int × Int × Int × Bool)
  | 0, _, _, _, _, _, _, _, _, _, _ => none
  | k + 1, Aj, Ai, Aa, Ab, Ac, Ad, Ae, Af, Ag, Ah => if Ai < (Aj.length : Int) then (if 0 ≤ Ai then (if 0 ≤ (wrap64 ((wrap64 (8 - (Aj.length : Int))) + Ai)) then (if (wrap64 ((wrap64 (8 - (Aj.length : Int))) + Ai)) = 0 then (al k Aj (wrap64 (Ai + 1)) (rd Aj Ai) Ab Ac Ad Ae Af Ag Ah) else (if (wrap64 ((wrap64 (8 - (Aj.length : Int))) + Ai)) = 1 then (al k Aj (wrap64 (Ai + 1)) Aa (rd Aj Ai) Ac Ad Ae Af Ag Ah) else (if (wrap64 ((wrap64 (8 - (Aj.length : Int))) + Ai)) = 2 then (al k Aj (wrap64 (Ai + 1)) Aa Ab (rd Aj Ai) Ad Ae Af Ag Ah) else (if (wrap64 ((wrap64 (8 - (Aj.length : Int))) + Ai)) = 3 then (al k Aj (wrap64 (Ai + 1)) Aa Ab Ac (rd Aj Ai) Ae Af Ag Ah) else (if (wrap64 ((wrap64 (8 - (Aj.length : Int))) + Ai)) = 4 then (al k Aj (wrap64 (Ai + 1)) Aa Ab Ac Ad (rd Aj Ai) Af Ag Ah) else (if (wrap64 ((wrap64 (8 - (Aj.length : Int))) + Ai)) = 5 then (al k Aj (wrap64 (Ai + 1)) Aa Ab Ac Ad Ae (rd Aj Ai) Ag Ah) else (if (wrap64 ((wrap64 (8 - (Aj.length : Int))) + Ai)) = 6 then (al k Aj (wrap64 (Ai + 1)) Aa Ab Ac Ad Ae Af (rd Aj Ai) Ah) else (if (wrap64 ((wrap64 (8 - (Aj.length : Int))) + Ai)) = 7 then (al k Aj (wrap64 (Ai + 1)) Aa Ab Ac Ad Ae Af Ag (rd Aj Ai)) else (none))))))))) else (none)) else (none)) else (some (Aa, Ab, Ac, Ad, Ae, Af, Ag, Ah, true))
end
def iQ (k : Nat) (a0 : ByteArray) : Option (Int × Int × Int × Int × Int × Int × Int × Int × Bool) := bM k a0 (-1) 0 0 0 0 0 0 0 0 0
theorem iW (k : Nat) (a0 : ByteArray) (r1 : Int) (r2 : Int) (r3 : Int) (r4 : Int) (r5 : Int) (r6 : Int) (r7 : Int) (r8 : Int) (r9 : Bool) (w : World) (h : iQ k a0 = some (r1, r2, r3, r4, r5, r6, r7, r8, r9)) :
    Calls Tryz.prog 83 #[.string a0] w fun e w' => e = .returned (.tuple #[.agg #[.int .i64 r1, .int .i64 r2, .int .i64 r3, .int .i64 r4, .int .i64 r5, .int .i64 r6, .int .i64 r7, .int .i64 r8], .bool r9]) ∧ Below w.heap.size w w' := by
 have hu104 := Tryz.underlying104
 have HB := Zz.mk (Below.refl w.heap.size w)
 have H := h
 clear h
 unfold iQ at H
 have H' := Zz.mk H
 clear H
 go_enter Tryz.func83, Tryz.ntmps83
 go_wp2_with (first | ((with_reducible refine aj (N := 2) rfl ?_); (try (refine cb (by rfl) ?_; dsimp only)); refine xew 2 ?_; intro AK w2 AM Cs hb hg; replace HB := xst hb; clear hb hg) | ((with_reducible refine aj (N := 4) rfl ?_); (try (refine cb (by rfl) ?_; dsimp only)); refine xew 4 ?_; intro Ao w3 Aj Ct hb hg; have Ak := xlt (g := AK) hg; have Al := xgt (g := AK) hg; replace AM := xbq AK hb; replace HB := xst hb; clear hb hg; have Dq := Al.out; have Dr := Ak.out; have DP := xz8 Aj.out))
 go_loopg [5, 6] k (fun kq v5 v6 w' => ∃ Be Bc, v5 = .int .i64 Be ∧ v6 = .int .i64 Bc ∧ Zz (bM kq a0 Be Bc 0 0 0 0 0 0 0 0 = some (r1, r2, r3, r4, r5, r6, r7, r8, r9)) ∧ Zz (kq ≤ k) ∧ Zz (w'.heap[AK]? = some (.cells #[.int .i64 0, .int .i64 0, .int .i64 0, .int .i64 0, .int .i64 0, .int .i64 0, .int .i64 0, .int .i64 0] 104 (0, 0))) ∧ Zz (w'.heap[Ao]? = some (.cells #[.int .i64 0, .int .i64 0, .int .i64 0, .int .i64 0, .int .i64 0, .int .i64 0, .int .i64 0, .int .i64 0] 104 (0, 0))) ∧ Zz (Below w.heap.size w w'))
 case atStart => exact ⟨((-1)), (0), xrr, xrr, H', ⟨Nat.le_refl _⟩, ⟨xbK⟩, ⟨xbK⟩, ⟨xbl⟩⟩
 case round => (
 clear H'
 obtain ⟨Be, Bc, rfl, rfl, HA, HK1, AM, Aj, HB⟩ := hrel
 cases gk with
 | zero => exact absurd HA.out (by simp [bM])
 | succ k1 => (
 have H := HA.out
 clear HA
 simp only [bM] at H
 refine xid H ?_ ?_ <;> clear H <;> intro c6 H
 {
 have BC := xdt c6
 clear c6
 refine xid H ?_ ?_ <;> clear H <;> intro c7 H
 {
 have BR := xdt c7
 clear c7
 refine xin H ?_; clear H; intro c8 H
 obtain ⟨Ds, Dt⟩ := xcp c8
 clear c8
 obtain ⟨Cu, Bp⟩ : ∃ j_ : Int, (wrap64 (Bc + 2)) = j_ := ⟨_, rfl⟩
 first | rw [Bp] at H | simp only [Bp] at H | skip
 have Cv : (IntKind.i64.wrap (Bc + 2)) = Cu := (ag _).trans Bp
 refine xin H ?_; clear H; intro c10 H
 obtain ⟨Cw, Cx⟩ := xcp c10
 clear c10
 refine xin H ?_; clear H; intro c11 H
 obtain ⟨Cy, Cz⟩ := xcp c11
 clear c11
 obtain ⟨Du, Bg⟩ : ∃ j_ : ByteArray, (a0.extract (Bc : Int).toNat ((Cu) : Int).toNat) = j_ := ⟨_, rfl⟩
 try (have Bw := Bg; simp only [Int.toNat_natCast] at Bw)
 first | rw [Bg] at H | simp only [Bg] at H | skip
 refine xid H ?_ ?_ <;> clear H <;> intro c13 H
 {
 obtain ⟨BD, BE⟩ := xqe c13
 clear c13
 replace H := xa H
 go_wp2
 first | go_roundg k1 | (simp only [← Bp, ← Bg]; go_roundg k1)
 case measure => have := HK1.out; omega
 case rel => exact ⟨(Bc), (wrap64 (Bc + 1)), xrr, xrr, H, ⟨by have := HK1.out; omega⟩, ⟨xbk⟩, ⟨xbk⟩, ⟨xbl⟩⟩
 }
 obtain ⟨BD, BE⟩ := xqn c13
 replace H := xa H
 go_wp2
 first | go_roundg k1 | (simp only [← Bp, ← Bg]; go_roundg k1)
 case measure => have := HK1.out; omega
 case rel => exact ⟨(Be), (wrap64 (Bc + 1)), xrr, xrr, H, ⟨by have := HK1.out; omega⟩, ⟨xbk⟩, ⟨xbk⟩, ⟨xbl⟩⟩
 }
 have BR := xdf c7
 clear c7
 replace H := xa H
 go_wp2
 go_roundg k1
 case measure => have := HK1.out; omega
 case rel => exact ⟨(Be), (wrap64 (Bc + 1)), xrr, xrr, H, ⟨by have := HK1.out; omega⟩, ⟨xbk⟩, ⟨xbk⟩, ⟨xbl⟩⟩
 }
 have BC := xdf c6
 clear c6
 refine xid H ?_ ?_ <;> clear H <;> intro c14 H
 {
 have Bq := xdt c14
 clear c14
 replace H := xbd H
 obtain ⟨⟨AJ, Dv⟩, A15, H⟩ := H
 try dsimp only at H
 have Bx := Zz.mk H
 clear H
 go_upto_region 10 with (first | ((with_reducible refine xgc (f := 100) rfl ?_); refine xgl 39 Tryz.func100 #[.string a0] ?_; (with_reducible refine (iM (w := _) (h := A15.out)).mono ?_); rintro e w17 ⟨v616, rfl, ho0, hb⟩; refine ⟨_, rfl, ?_⟩; have Br := Zz.mk (Kd.R_lower ho0 (aq xbl)); replace AM := xbq AK hb; replace Aj := xbq Ao hb; replace HB := xst hb; (try clear hb); (try clear ho0)))
 (try simp only [Act.put, xl1, xl2, xl3])
 go_cut [48] (fun v48 wc => ∃ kq Bj, v48 = .bool Bj ∧ Zz (dQ kq AJ Bj 0 0 0 0 0 0 0 0 = some (r1, r2, r3, r4, r5, r6, r7, r8, r9)) ∧ Zz (kq ≤ k1) ∧ Zz (Kd.R (Kd.int .i64) 3 wc w.heap.size (fun _ => True) v616 AJ) ∧ Zz (wc.heap[AK]? = some (.cells #[.int .i64 0, .int .i64 0, .int .i64 0, .int .i64 0, .int .i64 0, .int .i64 0, .int .i64 0, .int .i64 0] 104 (0, 0))) ∧ Zz (wc.heap[Ao]? = some (.cells #[.int .i64 0, .int .i64 0, .int .i64 0, .int .i64 0, .int .i64 0, .int .i64 0, .int .i64 0, .int .i64 0] 104 (0, 0))) ∧ Zz (Below w.heap.size w wc))
 case first => (
 have H := Bx.out
 clear Bx
 refine xib H ?_ ?_ <;> clear H <;> rintro rfl H
 {
 replace H := xa H
 obtain ⟨Ao19, co19, eo19⟩ := Kd.R_slice Br.out
 subst eo19
 go_wp2
 go_meet
 case rel => exact ⟨_, (((AJ.length : Int) != 8)), xrr, H, ⟨xoj HK1⟩, ⟨xkd Br⟩, ⟨xbk⟩, ⟨xbk⟩, ⟨xbl⟩⟩
 }
 replace H := xa H
 go_wp2
 go_meet
 case rel => exact ⟨_, (true), xrr, H, ⟨xoj HK1⟩, ⟨xkd Br⟩, ⟨xbk⟩, ⟨xbk⟩, ⟨xbl⟩⟩
 )
 case rest => (
 clear Bx
 clear BC Bq
 obtain ⟨kq, Bj, rfl, HA, HJ15, AL, AM, Aj, HB⟩ := hcut
 cases kq with
 | zero => exact absurd HA.out (by simp [dQ])
 | succ kj15 => (
 have H := HA.out
 clear HA
 simp only [dQ] at H
 refine xib H ?_ ?_ <;> clear H <;> rintro rfl H
 {
 simp only [Option.some.injEq, Prod.mk.injEq] at H
 obtain ⟨rfl, rfl, rfl, rfl, rfl, rfl, rfl, rfl, rfl⟩ := H
 have CA := Al.out
 have CB := Ak.out
 have Dw := xz8 Aj.out
 have Dx := xz8 AM.out
 go_wp2
 refine bodyPost_ret (aH rfl _ _ AK 104 #[.int .i64 0, .int .i64 0, .int .i64 0, .int .i64 0, .int .i64 0, .int .i64 0, .int .i64 0, .int .i64 0] (0, 0) _ rfl xbk Tryz.underlying104 rfl (by kernel_rfl)) rfl ?_
 exact ⟨xre, xbl⟩
 }
 have H' := Zz.mk H
 clear H
 go_wp2
 go_loopg [9] kj15 (fun kq v9 w' => ∃ A1 At Au Av Aw Ax Ay Az AA, v9 = .int .i64 A1 ∧ Zz (bo kq AJ A1 At Au Av Aw Ax Ay Az AA = some (r1, r2, r3, r4, r5, r6, r7, r8, r9)) ∧ Zz (kq ≤ kj15) ∧ Zz (Kd.R (Kd.int .i64) 3 w' w.heap.size (fun _ => True) v616 AJ) ∧ Zz (w'.heap[AK]? = some (.cells #[.int .i64 0, .int .i64 0, .int .i64 0, .int .i64 0, .int .i64 0, .int .i64 0, .int .i64 0, .int .i64 0] 104 (0, 0))) ∧ Zz (w'.heap[Ao]? = some (.cells #[.int .i64 At, .int .i64 Au, .int .i64 Av, .int .i64 Aw, .int .i64 Ax, .int .i64 Ay, .int .i64 Az, .int .i64 AA] 104 (0, 0))) ∧ Zz (Below w.heap.size w w'))
 case atStart => exact ⟨(0), (0), (0), (0), (0), (0), (0), (0), (0), xrr, H', ⟨Nat.le_refl _⟩, ⟨xkd AL⟩, ⟨xbk⟩, ⟨xbk⟩, ⟨xbl⟩⟩
 case round => (
 clear H'
 obtain ⟨A1, At, Au, Av, Aw, Ax, Ay, Az, AA, rfl, HA, HK3, AL, AM, Aj, HB⟩ := hrel
 cases gk with
 | zero => exact absurd HA.out (by simp [bo])
 | succ k3 => (
 have H := HA.out
 clear HA
 simp only [bo] at H
 refine xid H ?_ ?_ <;> clear H <;> intro c24 H
 {
 have BF := xdt c24
 clear c24
 refine xin H ?_; clear H; intro c25 H
 have CC := xdt c25
 clear c25
 refine xin H ?_; clear H; intro c26 H
 have CD := xdt c26
 clear c26
 by_cases c27 : A1 = 0
 {
 subst c27
 rw [if_pos rfl] at H
 replace H := xa H
 obtain ⟨Ao28, co28, eo28⟩ := Kd.R_slice AL.out
 subst eo28
 have p618 : 0 ≤ (0 : Int) := (by omega)
 have q618 : 0 < (AJ.length : Int) := xod
 obtain ⟨A2, e618, An⟩ := Kd.at_int (Kd.R_reads' AL.out).2.2 0 p618 q618
 cases e618
 have A3 : (0 < AJ.length) = True := eq_true (by omega)
 (try rw [show ((0 : Int)).toNat = 0 from rfl] at An)
 (try rw [Addr.add_zero'] at An)
 replace p618 := eq_true p618
 replace q618 := eq_true q618
 try (have AN := q618; simp only [ByteArray.size_extract, Nat.min_self] at AN)
 have CE := Al.out
 have CF := Ak.out
 have Dy := xz8 Aj.out
 go_wp2
 go_roundg k3
 case measure => have := HK1.out; have := HJ15.out; have := HK3.out; omega
 case rel => exact ⟨(wrap64 (0 + 1)), (rd AJ 0), (Au), (Av), (Aw), (Ax), (Ay), (Az), (AA), xrr, H, ⟨by have := HK1.out; have := HJ15.out; have := HK3.out; omega⟩, ⟨by (with_reducible repeat (first | apply Kd.R_alloc | apply Kd.R_drewN | apply Kd.R_drew)); exact Kd.R_mono (Kd.R_far (p := ⟨Ao, 0, none⟩) (Kd.R_types AL.out Aj.out (by decide)) (fun _ hk => hk.2) (.int .i64 (rd AJ 0))) (fun _ hk => trivial)⟩, ⟨xbK⟩, ⟨xbK⟩, ⟨xbl⟩⟩
 }
 {
 rw [if_neg c27] at H
 clear c27
 by_cases c31 : A1 = 1
 {
 subst c31
 rw [if_pos rfl] at H
 replace H := xa H
 obtain ⟨Ao32, co32, eo32⟩ := Kd.R_slice AL.out
 subst eo32
 have p618 : 0 ≤ (1 : Int) := (by omega)
 have q618 : 1 < (AJ.length : Int) := xod
 obtain ⟨A2, e618, An⟩ := Kd.at_int (Kd.R_reads' AL.out).2.2 1 p618 q618
 cases e618
 (try simp only [show (1 : Int).toNat = 1 from rfl, Nat.reduceMul, Nat.reduceEqDiff, Go.Addr.add, ↓reduceIte] at An)
 have A3 : (1 < AJ.length) = True := eq_true (by omega)
 (try rw [show ((1 : Int)).toNat = 1 from rfl] at An)
 replace p618 := eq_true p618
 replace q618 := eq_true q618
 try (have AN := q618; simp only [ByteArray.size_extract, Nat.min_self] at AN)
 have CG := Al.out
 have CH := Ak.out
 have Dz := xz8 Aj.out
 go_wp2
 go_roundg k3
 case measure => have := HK1.out; have := HJ15.out; have := HK3.out; omega
 case rel => exact ⟨(wrap64 (1 + 1)), (At), (rd AJ 1), (Av), (Aw), (Ax), (Ay), (Az), (AA), xrr, H, ⟨by have := HK1.out; have := HJ15.out; have := HK3.out; omega⟩, ⟨by (with_reducible repeat (first | apply Kd.R_alloc | apply Kd.R_drewN | apply Kd.R_drew)); exact Kd.R_mono (Kd.R_far (p := ⟨Ao, 1, none⟩) (Kd.R_types AL.out Aj.out (by decide)) (fun _ hk => hk.2) (.int .i64 (rd AJ 1))) (fun _ hk => trivial)⟩, ⟨xbK⟩, ⟨xbK⟩, ⟨xbl⟩⟩
 }
 {
 rw [if_neg c31] at H
 clear c31
 by_cases c35 : A1 = 2
 {
 subst c35
 rw [if_pos rfl] at H
 replace H := xa H
 obtain ⟨Ao36, co36, eo36⟩ := Kd.R_slice AL.out
 subst eo36
 have p618 : 0 ≤ (2 : Int) := (by omega)
 have q618 : 2 < (AJ.length : Int) := xod
 obtain ⟨A2, e618, An⟩ := Kd.at_int (Kd.R_reads' AL.out).2.2 2 p618 q618
 cases e618
 (try simp only [show (2 : Int).toNat = 2 from rfl, Nat.reduceMul, Nat.reduceEqDiff, Go.Addr.add, ↓reduceIte] at An)
 have A3 : (2 < AJ.length) = True := eq_true (by omega)
 (try rw [show ((2 : Int)).toNat = 2 from rfl] at An)
 replace p618 := eq_true p618
 replace q618 := eq_true q618
 try (have AN := q618; simp only [ByteArray.size_extract, Nat.min_self] at AN)
 have CI := Al.out
 have CJ := Ak.out
 have DA := xz8 Aj.out
 go_wp2
 go_roundg k3
 case measure => have := HK1.out; have := HJ15.out; have := HK3.out; omega
 case rel => exact ⟨(wrap64 (2 + 1)), (At), (Au), (rd AJ 2), (Aw), (Ax), (Ay), (Az), (AA), xrr, H, ⟨by have := HK1.out; have := HJ15.out; have := HK3.out; omega⟩, ⟨by (with_reducible repeat (first | apply Kd.R_alloc | apply Kd.R_drewN | apply Kd.R_drew)); exact Kd.R_mono (Kd.R_far (p := ⟨Ao, 2, none⟩) (Kd.R_types AL.out Aj.out (by decide)) (fun _ hk => hk.2) (.int .i64 (rd AJ 2))) (fun _ hk => trivial)⟩, ⟨xbK⟩, ⟨xbK⟩, ⟨xbl⟩⟩
 }
 {
 rw [if_neg c35] at H
 clear c35
 by_cases c39 : A1 = 3
 {
 subst c39
 rw [if_pos rfl] at H
 replace H := xa H
 obtain ⟨Ao40, co40, eo40⟩ := Kd.R_slice AL.out
 subst eo40
 have p618 : 0 ≤ (3 : Int) := (by omega)
 have q618 : 3 < (AJ.length : Int) := xod
 obtain ⟨A2, e618, An⟩ := Kd.at_int (Kd.R_reads' AL.out).2.2 3 p618 q618
 cases e618
 (try simp only [show (3 : Int).toNat = 3 from rfl, Nat.reduceMul, Nat.reduceEqDiff, Go.Addr.add, ↓reduceIte] at An)
 have A3 : (3 < AJ.length) = True := eq_true (by omega)
 (try rw [show ((3 : Int)).toNat = 3 from rfl] at An)
 replace p618 := eq_true p618
 replace q618 := eq_true q618
 try (have AN := q618; simp only [ByteArray.size_extract, Nat.min_self] at AN)
 have CK := Al.out
 have CL := Ak.out
 have DB := xz8 Aj.out
 go_wp2
 go_roundg k3
 case measure => have := HK1.out; have := HJ15.out; have := HK3.out; omega
 case rel => exact ⟨(wrap64 (3 + 1)), (At), (Au), (Av), (rd AJ 3), (Ax), (Ay), (Az), (AA), xrr, H, ⟨by have := HK1.out; have := HJ15.out; have := HK3.out; omega⟩, ⟨by (with_reducible repeat (first | apply Kd.R_alloc | apply Kd.R_drewN | apply Kd.R_drew)); exact Kd.R_mono (Kd.R_far (p := ⟨Ao, 3, none⟩) (Kd.R_types AL.out Aj.out (by decide)) (fun _ hk => hk.2) (.int .i64 (rd AJ 3))) (fun _ hk => trivial)⟩, ⟨xbK⟩, ⟨xbK⟩, ⟨xbl⟩⟩
 }
 {
 rw [if_neg c39] at H
 clear c39
 by_cases c43 : A1 = 4
 {
 subst c43
 rw [if_pos rfl] at H
 replace H := xa H
 obtain ⟨Ao44, co44, eo44⟩ := Kd.R_slice AL.out
 subst eo44
 have p618 : 0 ≤ (4 : Int) := (by omega)
 have q618 : 4 < (AJ.length : Int) := xod
 obtain ⟨A2, e618, An⟩ := Kd.at_int (Kd.R_reads' AL.out).2.2 4 p618 q618
 cases e618
 (try simp only [show (4 : Int).toNat = 4 from rfl, Nat.reduceMul, Nat.reduceEqDiff, Go.Addr.add, ↓reduceIte] at An)
 have A3 : (4 < AJ.length) = True := eq_true (by omega)
 (try rw [show ((4 : Int)).toNat = 4 from rfl] at An)
 replace p618 := eq_true p618
 replace q618 := eq_true q618
 try (have AN := q618; simp only [ByteArray.size_extract, Nat.min_self] at AN)
 have CM := Al.out
 have CN := Ak.out
 have DC := xz8 Aj.out
 go_wp2
 go_roundg k3
 case measure => have := HK1.out; have := HJ15.out; have := HK3.out; omega
 case rel => exact ⟨(wrap64 (4 + 1)), (At), (Au), (Av), (Aw), (rd AJ 4), (Ay), (Az), (AA), xrr, H, ⟨by have := HK1.out; have := HJ15.out; have := HK3.out; omega⟩, ⟨by (with_reducible repeat (first | apply Kd.R_alloc | apply Kd.R_drewN | apply Kd.R_drew)); exact Kd.R_mono (Kd.R_far (p := ⟨Ao, 4, none⟩) (Kd.R_types AL.out Aj.out (by decide)) (fun _ hk => hk.2) (.int .i64 (rd AJ 4))) (fun _ hk => trivial)⟩, ⟨xbK⟩, ⟨xbK⟩, ⟨xbl⟩⟩
 }
 {
 rw [if_neg c43] at H
 clear c43
 by_cases c47 : A1 = 5
 {
 subst c47
 rw [if_pos rfl] at H
 replace H := xa H
 obtain ⟨Ao48, co48, eo48⟩ := Kd.R_slice AL.out
 subst eo48
 have p618 : 0 ≤ (5 : Int) := (by omega)
 have q618 : 5 < (AJ.length : Int) := xod
 obtain ⟨A2, e618, An⟩ := Kd.at_int (Kd.R_reads' AL.out).2.2 5 p618 q618
 cases e618
 (try simp only [show (5 : Int).toNat = 5 from rfl, Nat.reduceMul, Nat.reduceEqDiff, Go.Addr.add, ↓reduceIte] at An)
 have A3 : (5 < AJ.length) = True := eq_true (by omega)
 (try rw [show ((5 : Int)).toNat = 5 from rfl] at An)
 replace p618 := eq_true p618
 replace q618 := eq_true q618
 try (have AN := q618; simp only [ByteArray.size_extract, Nat.min_self] at AN)
 have CO := Al.out
 have CP := Ak.out
 have DD := xz8 Aj.out
 go_wp2
 go_roundg k3
 case measure => have := HK1.out; have := HJ15.out; have := HK3.out; omega
 case rel => exact ⟨(wrap64 (5 + 1)), (At), (Au), (Av), (Aw), (Ax), (rd AJ 5), (Az), (AA), xrr, H, ⟨by have := HK1.out; have := HJ15.out; have := HK3.out; omega⟩, ⟨by (with_reducible repeat (first | apply Kd.R_alloc | apply Kd.R_drewN | apply Kd.R_drew)); exact Kd.R_mono (Kd.R_far (p := ⟨Ao, 5, none⟩) (Kd.R_types AL.out Aj.out (by decide)) (fun _ hk => hk.2) (.int .i64 (rd AJ 5))) (fun _ hk => trivial)⟩, ⟨xbK⟩, ⟨xbK⟩, ⟨xbl⟩⟩
 }
 {
 rw [if_neg c47] at H
 clear c47
 by_cases c51 : A1 = 6
 {
 subst c51
 rw [if_pos rfl] at H
 replace H := xa H
 obtain ⟨Ao52, co52, eo52⟩ := Kd.R_slice AL.out
 subst eo52
 have p618 : 0 ≤ (6 : Int) := (by omega)
 have q618 : 6 < (AJ.length : Int) := xod
 obtain ⟨A2, e618, An⟩ := Kd.at_int (Kd.R_reads' AL.out).2.2 6 p618 q618
 cases e618
 (try simp only [show (6 : Int).toNat = 6 from rfl, Nat.reduceMul, Nat.reduceEqDiff, Go.Addr.add, ↓reduceIte] at An)
 have A3 : (6 < AJ.length) = True := eq_true (by omega)
 (try rw [show ((6 : Int)).toNat = 6 from rfl] at An)
 replace p618 := eq_true p618
 replace q618 := eq_true q618
 try (have AN := q618; simp only [ByteArray.size_extract, Nat.min_self] at AN)
 have CQ := Al.out
 have CR := Ak.out
 have DE := xz8 Aj.out
 go_wp2
 go_roundg k3
 case measure => have := HK1.out; have := HJ15.out; have := HK3.out; omega
 case rel => exact ⟨(wrap64 (6 + 1)), (At), (Au), (Av), (Aw), (Ax), (Ay), (rd AJ 6), (AA), xrr, H, ⟨by have := HK1.out; have := HJ15.out; have := HK3.out; omega⟩, ⟨by (with_reducible repeat (first | apply Kd.R_alloc | apply Kd.R_drewN | apply Kd.R_drew)); exact Kd.R_mono (Kd.R_far (p := ⟨Ao, 6, none⟩) (Kd.R_types AL.out Aj.out (by decide)) (fun _ hk => hk.2) (.int .i64 (rd AJ 6))) (fun _ hk => trivial)⟩, ⟨xbK⟩, ⟨xbK⟩, ⟨xbl⟩⟩
 }
 {
 rw [if_neg c51] at H
 clear c51
 by_cases c55 : A1 = 7
 {
 subst c55
 rw [if_pos rfl] at H
 replace H := xa H
 obtain ⟨Ao56, co56, eo56⟩ := Kd.R_slice AL.out
 subst eo56
 have p618 : 0 ≤ (7 : Int) := (by omega)
 have q618 : 7 < (AJ.length : Int) := xod
 obtain ⟨A2, e618, An⟩ := Kd.at_int (Kd.R_reads' AL.out).2.2 7 p618 q618
 cases e618
 (try simp only [show (7 : Int).toNat = 7 from rfl, Nat.reduceMul, Nat.reduceEqDiff, Go.Addr.add, ↓reduceIte] at An)
 have A3 : (7 < AJ.length) = True := eq_true (by omega)
 (try rw [show ((7 : Int)).toNat = 7 from rfl] at An)
 replace p618 := eq_true p618
 replace q618 := eq_true q618
 try (have AN := q618; simp only [ByteArray.size_extract, Nat.min_self] at AN)
 have CS := Al.out
 have CT := Ak.out
 have DF := xz8 Aj.out
 go_wp2
 go_roundg k3
 case measure => have := HK1.out; have := HJ15.out; have := HK3.out; omega
 case rel => exact ⟨(wrap64 (7 + 1)), (At), (Au), (Av), (Aw), (Ax), (Ay), (Az), (rd AJ 7), xrr, H, ⟨by have := HK1.out; have := HJ15.out; have := HK3.out; omega⟩, ⟨by (with_reducible repeat (first | apply Kd.R_alloc | apply Kd.R_drewN | apply Kd.R_drew)); exact Kd.R_mono (Kd.R_far (p := ⟨Ao, 7, none⟩) (Kd.R_types AL.out Aj.out (by decide)) (fun _ hk => hk.2) (.int .i64 (rd AJ 7))) (fun _ hk => trivial)⟩, ⟨xbK⟩, ⟨xbK⟩, ⟨xbl⟩⟩
 }
 {
 rw [if_neg c55] at H
 clear c55
 exact absurd H (by simp)
 }
 }
 }
 }
 }
 }
 }
 }
 }
 have BF := xdf c24
 clear c24
 simp only [Option.some.injEq, Prod.mk.injEq] at H
 obtain ⟨rfl, rfl, rfl, rfl, rfl, rfl, rfl, rfl, rfl⟩ := H
 have CU := Al.out
 have CV := Ak.out
 have DG := xz8 Aj.out
 have DH := xz8 AM.out
 go_wp2
 refine bodyPost_ret (aH rfl _ _ AK 104 #[.int .i64 At, .int .i64 Au, .int .i64 Av, .int .i64 Aw, .int .i64 Ax, .int .i64 Ay, .int .i64 Az, .int .i64 AA] (0, 0) _ rfl xbk Tryz.underlying104 rfl (by kernel_rfl)) rfl ?_
 exact ⟨xre, xbl⟩
 )
 )
 )
 )
 }
 have Bq := xdf c14
 clear c14
 refine xin H ?_; clear H; intro c62 H
 obtain ⟨BG, BH⟩ := xcp c62
 clear c62
 refine xin H ?_; clear H; intro c63 H
 obtain ⟨BI, BJ⟩ := xcp c63
 clear c63
 obtain ⟨BS, AX⟩ : ∃ j_ : ByteArray, (a0.extract 0 (Be : Int).toNat) = j_ := ⟨_, rfl⟩
 try (have By := AX; simp only [Int.toNat_natCast] at By)
 first | rw [AX] at H | simp only [AX] at H | skip
 replace H := xbd H
 obtain ⟨⟨Ar, DI⟩, A65, H⟩ := H
 try dsimp only at H
 obtain ⟨BL, A4⟩ : ∃ j_ : Int, (wrap64 (Be + 2)) = j_ := ⟨_, rfl⟩
 first | rw [A4] at H | simp only [A4] at H | skip
 (try rw [A4] at A65)
 have BT : (IntKind.i64.wrap (Be + 2)) = BL := (ag _).trans A4
 refine xin H ?_; clear H; intro c67 H
 obtain ⟨BM, BN⟩ := xcp c67
 clear c67
 refine xin H ?_; clear H; intro c68 H
 obtain ⟨BO, BP⟩ := xcp c68
 clear c68
 obtain ⟨BU, A5⟩ : ∃ j_ : ByteArray, (a0.extract ((BL) : Int).toNat a0.size) = j_ := ⟨_, rfl⟩
 first | rw [A5] at H | simp only [A5] at H | skip
 (try rw [A5] at A65)
 replace H := xbd H
 obtain ⟨⟨Am, DJ⟩, A70, H⟩ := H
 try dsimp only at H
 have Bz := Zz.mk H
 clear H
 go_upto_region 19 with (first | ((with_reducible refine xgc (f := 100) rfl ?_); refine hX (some 65) rfl rfl Tryz.func100 (by kernel_rfl) rfl #[.string BS] rfl (by (try simp only [List.map_toArray, List.map_cons, List.map_nil]); first | done | (simp only [AX]; rfl) | rfl | (simp only [List.length_drop, List.length_take]; rfl)) ?_; (with_reducible refine (iM (w := _) (h := A65.out)).mono ?_); rintro e w72 ⟨v621, rfl, ho0, hb⟩; refine ⟨_, rfl, ?_⟩; have A6 := Zz.mk (Kd.R_lower ho0 (aq xbl)); replace AM := xbq AK hb; replace Aj := xbq Ao hb; replace HB := xst hb; (try clear hb); (try clear ho0)) | ((with_reducible refine xgc (f := 100) rfl ?_); refine hX (some 73) rfl rfl Tryz.func100 (by kernel_rfl) rfl #[.string BU] rfl (by (try simp only [List.map_toArray, List.map_cons, List.map_nil]); first | done | (simp only [A5]; rfl) | rfl | (simp only [List.length_drop, List.length_take]; rfl)) ?_; (with_reducible refine (iM (w := _) (h := A70.out)).mono ?_); rintro e w73 ⟨v625, rfl, ho0, hb⟩; refine ⟨_, rfl, ?_⟩; have Bn := Zz.mk (Kd.R_lower (Kd.R_new' ho0 (Kd.R_lt (xkd A6))) (aq xbl)); replace A6 := Zz.mk (Kd.R_elder' (xkd A6) (Kd.R_base ho0) hb); replace AM := xbq AK hb; replace Aj := xbq Ao hb; replace HB := xst hb; (try clear hb); (try clear ho0)))
 (try simp only [Act.put, xl1, xl2, xl3])
 go_cut [89] (fun v89 wc => ∃ kq Bk, v89 = .bool Bk ∧ Zz (dc kq a0 Be Ar Am Bk 0 0 0 0 0 0 0 0 = some (r1, r2, r3, r4, r5, r6, r7, r8, r9)) ∧ Zz (kq ≤ k1) ∧ Zz (Kd.R (Kd.int .i64) 3 wc w.heap.size (fun k_ => some k_ ≠ (v625 : Value).ownBlock) v621 Ar) ∧ Zz (Kd.R (Kd.int .i64) 3 wc w.heap.size (fun k_ => some k_ ≠ (v621 : Value).ownBlock) v625 Am) ∧ Zz (wc.heap[AK]? = some (.cells #[.int .i64 0, .int .i64 0, .int .i64 0, .int .i64 0, .int .i64 0, .int .i64 0, .int .i64 0, .int .i64 0] 104 (0, 0))) ∧ Zz (wc.heap[Ao]? = some (.cells #[.int .i64 0, .int .i64 0, .int .i64 0, .int .i64 0, .int .i64 0, .int .i64 0, .int .i64 0, .int .i64 0] 104 (0, 0))) ∧ Zz (Below w.heap.size w wc))
 case first => (
 have H := Bz.out
 clear Bz
 refine xib H ?_ ?_ <;> clear H <;> rintro rfl H
 {
 refine xib H ?_ ?_ <;> clear H <;> rintro rfl H
 {
 replace H := xa H
 obtain ⟨Ao76, co76, eo76⟩ := Kd.R_slice A6.out
 subst eo76
 obtain ⟨Ao77, co77, eo77⟩ := Kd.R_slice Bn.out
 subst eo77
 go_wp2
 go_meet
 case rel => exact ⟨_, (decide ((wrap64 ((Ar.length : Int) + (Am.length : Int))) > 7)), xrr, H, ⟨xoj HK1⟩, ⟨by (with_reducible repeat (first | apply Kd.R_alloc | apply Kd.R_drewN | apply Kd.R_drew)); exact Kd.R_mono A6.out (fun _ hk => hk.2)⟩, ⟨by (with_reducible repeat (first | apply Kd.R_alloc | apply Kd.R_drewN | apply Kd.R_drew)); exact Kd.R_mono Bn.out (fun _ hk => hk.2)⟩, ⟨xbk⟩, ⟨xbk⟩, ⟨xbl⟩⟩
 }
 replace H := xa H
 go_wp2
 go_meet
 case rel => exact ⟨_, (true), xrr, H, ⟨xoj HK1⟩, ⟨by (with_reducible repeat (first | apply Kd.R_alloc | apply Kd.R_drewN | apply Kd.R_drew)); exact Kd.R_mono A6.out (fun _ hk => hk.2)⟩, ⟨by (with_reducible repeat (first | apply Kd.R_alloc | apply Kd.R_drewN | apply Kd.R_drew)); exact Kd.R_mono Bn.out (fun _ hk => hk.2)⟩, ⟨xbk⟩, ⟨xbk⟩, ⟨xbl⟩⟩
 }
 replace H := xa H
 go_wp2
 go_meet
 case rel => exact ⟨_, (true), xrr, H, ⟨xoj HK1⟩, ⟨by (with_reducible repeat (first | apply Kd.R_alloc | apply Kd.R_drewN | apply Kd.R_drew)); exact Kd.R_mono A6.out (fun _ hk => hk.2)⟩, ⟨by (with_reducible repeat (first | apply Kd.R_alloc | apply Kd.R_drewN | apply Kd.R_drew)); exact Kd.R_mono Bn.out (fun _ hk => hk.2)⟩, ⟨xbk⟩, ⟨xbk⟩, ⟨xbl⟩⟩
 )
 case rest => (
 clear Bz
 clear Bq BG BH BI BJ BM BN BO BP
 try clear An
 obtain ⟨kq, Bk, rfl, HA, HJ70, As, Aq, AM, Aj, HB⟩ := hcut
 cases kq with
 | zero => exact absurd HA.out (by simp [dc])
 | succ kj70 => (
 have H := HA.out
 clear HA
 simp only [dc] at H
 refine xib H ?_ ?_ <;> clear H <;> rintro rfl H
 {
 simp only [Option.some.injEq, Prod.mk.injEq] at H
 obtain ⟨rfl, rfl, rfl, rfl, rfl, rfl, rfl, rfl, rfl⟩ := H
 have CW := Al.out
 have CX := Ak.out
 have DK := xz8 Aj.out
 have DL := xz8 AM.out
 go_wp2
 refine bodyPost_ret (aH rfl _ _ AK 104 #[.int .i64 0, .int .i64 0, .int .i64 0, .int .i64 0, .int .i64 0, .int .i64 0, .int .i64 0, .int .i64 0] (0, 0) _ rfl xbk Tryz.underlying104 rfl (by kernel_rfl)) rfl ?_
 exact ⟨by first | exact xrd | (simp only [← AX, ← A4, ← A5]; exact xrd) | exact xre, xbl⟩
 }
 have BA := Zz.mk H
 clear H
 go_upto_region 21 with (fail)
 go_cut [98] (fun v98 wc => ∃ kq Bl, v98 = .bool Bl ∧ Zz (dd kq Ar Am Bl 0 0 0 0 0 0 0 0 = some (r1, r2, r3, r4, r5, r6, r7, r8, r9)) ∧ Zz (kq ≤ kj70) ∧ Zz (Kd.R (Kd.int .i64) 3 wc w.heap.size (fun k_ => some k_ ≠ (v625 : Value).ownBlock) v621 Ar) ∧ Zz (Kd.R (Kd.int .i64) 3 wc w.heap.size (fun k_ => some k_ ≠ (v621 : Value).ownBlock) v625 Am) ∧ Zz (wc.heap[AK]? = some (.cells #[.int .i64 0, .int .i64 0, .int .i64 0, .int .i64 0, .int .i64 0, .int .i64 0, .int .i64 0, .int .i64 0] 104 (0, 0))) ∧ Zz (wc.heap[Ao]? = some (.cells #[.int .i64 0, .int .i64 0, .int .i64 0, .int .i64 0, .int .i64 0, .int .i64 0, .int .i64 0, .int .i64 0] 104 (0, 0))) ∧ Zz (Below w.heap.size w wc))
 case first => (
 have H := BA.out
 clear BA
 refine xid H ?_ ?_ <;> clear H <;> intro c83 H
 {
 have Bh := xdt c83
 clear c83
 (first | rw [Bh] | (simp only [ag, ak]; rw [Bh]) | skip)
 refine xin H ?_; clear H; intro c84 H
 obtain ⟨CY, CZ⟩ := xcp c84
 clear c84
 refine xin H ?_; clear H; intro c85 H
 obtain ⟨C0, C1⟩ := xcp c85
 clear c85
 first | rw [AX] at H | simp only [AX] at H | skip
 replace H := xbd H
 obtain ⟨BV, A86, H⟩ := H
 try dsimp only at H
 replace H := xa H
 go_wp2_with (first | (go_at_call 50; (with_reducible refine (aw (w := _) (h := A86.out)).mono ?_); rintro e w' ⟨rfl, ⟨nd, rfl⟩⟩))
 go_meet
 case rel => exact ⟨_, (BV), xrr, H, ⟨xoJ HK1 HJ70⟩, ⟨xkd As⟩, ⟨xkd Aq⟩, ⟨xbk⟩, ⟨xbk⟩, ⟨xbl⟩⟩
 }
 have Bh := xdf c83
 clear c83
 (first | rw [Bh] | (simp only [ag, ak]; rw [Bh]) | skip)
 replace H := xa H
 go_wp2
 go_meet
 case rel => exact ⟨_, (false), xrr, H, ⟨xoJ HK1 HJ70⟩, ⟨xkd As⟩, ⟨xkd Aq⟩, ⟨xbk⟩, ⟨xbk⟩, ⟨xbl⟩⟩
 )
 case rest => (
 clear BA
 try clear An
 obtain ⟨kq, Bl, rfl, HA, HJ81, As, Aq, AM, Aj, HB⟩ := hcut
 cases kq with
 | zero => exact absurd HA.out (by simp [dd])
 | succ kj81 => (
 have H := HA.out
 clear HA
 simp only [dd] at H
 refine xib H ?_ ?_ <;> clear H <;> rintro rfl H
 {
 simp only [Option.some.injEq, Prod.mk.injEq] at H
 obtain ⟨rfl, rfl, rfl, rfl, rfl, rfl, rfl, rfl, rfl⟩ := H
 have C2 := Al.out
 have C3 := Ak.out
 have DM := xz8 Aj.out
 have DN := xz8 AM.out
 go_wp2
 refine bodyPost_ret (aH rfl _ _ AK 104 #[.int .i64 0, .int .i64 0, .int .i64 0, .int .i64 0, .int .i64 0, .int .i64 0, .int .i64 0, .int .i64 0] (0, 0) _ rfl xbk Tryz.underlying104 rfl (by kernel_rfl)) rfl ?_
 exact ⟨by first | exact xrd | (simp only [← AX, ← A4, ← A5]; exact xrd) | exact xre, xbl⟩
 }
 have H' := Zz.mk H
 clear H
 go_wp2
 go_loopg [14] kj81 (fun kq v14 w' => ∃ AT AB AC AD AE AF AG AH AI, v14 = .int .i64 AT ∧ Zz (bp kq Ar Am AT AB AC AD AE AF AG AH AI = some (r1, r2, r3, r4, r5, r6, r7, r8, r9)) ∧ Zz (kq ≤ kj81) ∧ Zz (Kd.R (Kd.int .i64) 3 w' w.heap.size (fun k_ => some k_ ≠ (v625 : Value).ownBlock) v621 Ar) ∧ Zz (Kd.R (Kd.int .i64) 3 w' w.heap.size (fun k_ => some k_ ≠ (v621 : Value).ownBlock) v625 Am) ∧ Zz (w'.heap[AK]? = some (.cells #[.int .i64 0, .int .i64 0, .int .i64 0, .int .i64 0, .int .i64 0, .int .i64 0, .int .i64 0, .int .i64 0] 104 (0, 0))) ∧ Zz (w'.heap[Ao]? = some (.cells #[.int .i64 AB, .int .i64 AC, .int .i64 AD, .int .i64 AE, .int .i64 AF, .int .i64 AG, .int .i64 AH, .int .i64 AI] 104 (0, 0))) ∧ Zz (Below w.heap.size w w'))
 case atStart => exact ⟨(0), (0), (0), (0), (0), (0), (0), (0), (0), xrr, H', ⟨Nat.le_refl _⟩, ⟨xkd As⟩, ⟨xkd Aq⟩, ⟨xbk⟩, ⟨xbk⟩, ⟨xbl⟩⟩
 case round => (
 clear H'
 try clear An
 obtain ⟨AT, AB, AC, AD, AE, AF, AG, AH, AI, rfl, HA, HK4, As, Aq, AM, Aj, HB⟩ := hrel
 cases gk with
 | zero => exact absurd HA.out (by simp [bp])
 | succ k4 => (
 have H := HA.out
 clear HA
 simp only [bp] at H
 refine xid H ?_ ?_ <;> clear H <;> intro c91 H
 {
 have Bt := xdt c91
 clear c91
 refine xin H ?_; clear H; intro c92 H
 have C4 := xdt c92
 clear c92
 by_cases c93 : AT = 0
 {
 subst c93
 rw [if_pos rfl] at H
 replace H := xa H
 obtain ⟨Ao94, co94, eo94⟩ := Kd.R_slice As.out
 subst eo94
 have p628 : 0 ≤ (0 : Int) := (by omega)
 have q628 : 0 < (Ar.length : Int) := xod
 obtain ⟨A7, e628, Ap⟩ := Kd.at_int (Kd.R_reads' As.out).2.2 0 p628 q628
 cases e628
 have A8 : (0 < Ar.length) = True := eq_true (by omega)
 (try rw [show ((0 : Int)).toNat = 0 from rfl] at Ap)
 (try rw [Addr.add_zero'] at Ap)
 replace p628 := eq_true p628
 replace q628 := eq_true q628
 try (have AO := q628; simp only [ByteArray.size_extract, Nat.min_self] at AO)
 have C5 := Al.out
 have C6 := Ak.out
 have DO := xz8 Aj.out
 go_wp2
 go_roundg k4
 case measure => have := HK1.out; have := HJ70.out; have := HJ81.out; have := HK4.out; omega
 case rel => exact ⟨(wrap64 (0 + 1)), (rd Ar 0), (AC), (AD), (AE), (AF), (AG), (AH), (AI), xrr, H, ⟨by have := HK1.out; have := HJ70.out; have := HJ81.out; have := HK4.out; omega⟩, ⟨by (with_reducible repeat (first | apply Kd.R_alloc | apply Kd.R_drewN | apply Kd.R_drew)); exact Kd.R_mono (Kd.R_far (p := ⟨Ao, 0, none⟩) (Kd.R_types As.out Aj.out (by decide)) (fun _ hk => hk.2) (.int .i64 (rd Ar 0))) (fun _ hk => hk.1)⟩, ⟨by (with_reducible repeat (first | apply Kd.R_alloc | apply Kd.R_drewN | apply Kd.R_drew)); exact Kd.R_mono (Kd.R_far (p := ⟨Ao, 0, none⟩) (Kd.R_types Aq.out Aj.out (by decide)) (fun _ hk => hk.2) (.int .i64 (rd Ar 0))) (fun _ hk => hk.1)⟩, ⟨xbK⟩, ⟨xbK⟩, ⟨xbl⟩⟩
 }
 {
 rw [if_neg c93] at H
 clear c93
 by_cases c97 : AT = 1
 {
 subst c97
 rw [if_pos rfl] at H
 replace H := xa H
 obtain ⟨Ao98, co98, eo98⟩ := Kd.R_slice As.out
 subst eo98
 have p628 : 0 ≤ (1 : Int) := (by omega)
 have q628 : 1 < (Ar.length : Int) := xod
 obtain ⟨A7, e628, Ap⟩ := Kd.at_int (Kd.R_reads' As.out).2.2 1 p628 q628
 cases e628
 (try simp only [show (1 : Int).toNat = 1 from rfl, Nat.reduceMul, Nat.reduceEqDiff, Go.Addr.add, ↓reduceIte] at Ap)
 have A8 : (1 < Ar.length) = True := eq_true (by omega)
 (try rw [show ((1 : Int)).toNat = 1 from rfl] at Ap)
 replace p628 := eq_true p628
 replace q628 := eq_true q628
 try (have AO := q628; simp only [ByteArray.size_extract, Nat.min_self] at AO)
 have C7 := Al.out
 have C8 := Ak.out
 have C9 := xz8 Aj.out
 go_wp2
 go_roundg k4
 case measure => have := HK1.out; have := HJ70.out; have := HJ81.out; have := HK4.out; omega
 case rel => exact ⟨(wrap64 (1 + 1)), (AB), (rd Ar 1), (AD), (AE), (AF), (AG), (AH), (AI), xrr, H, ⟨by have := HK1.out; have := HJ70.out; have := HJ81.out; have := HK4.out; omega⟩, ⟨by (with_reducible repeat (first | apply Kd.R_alloc | apply Kd.R_drewN | apply Kd.R_drew)); exact Kd.R_mono (Kd.R_far (p := ⟨Ao, 1, none⟩) (Kd.R_types As.out Aj.out (by decide)) (fun _ hk => hk.2) (.int .i64 (rd Ar 1))) (fun _ hk => hk.1)⟩, ⟨by (with_reducible repeat (first | apply Kd.R_alloc | apply Kd.R_drewN | apply Kd.R_drew)); exact Kd.R_mono (Kd.R_far (p := ⟨Ao, 1, none⟩) (Kd.R_types Aq.out Aj.out (by decide)) (fun _ hk => hk.2) (.int .i64 (rd Ar 1))) (fun _ hk => hk.1)⟩, ⟨xbK⟩, ⟨xbK⟩, ⟨xbl⟩⟩
 }
 {
 rw [if_neg c97] at H
 clear c97
 by_cases c101 : AT = 2
 {
 subst c101
 rw [if_pos rfl] at H
 replace H := xa H
 obtain ⟨Ao102, co102, eo102⟩ := Kd.R_slice As.out
 subst eo102
 have p628 : 0 ≤ (2 : Int) := (by omega)
 have q628 : 2 < (Ar.length : Int) := xod
 obtain ⟨A7, e628, Ap⟩ := Kd.at_int (Kd.R_reads' As.out).2.2 2 p628 q628
 cases e628
 (try simp only [show (2 : Int).toNat = 2 from rfl, Nat.reduceMul, Nat.reduceEqDiff, Go.Addr.add, ↓reduceIte] at Ap)
 have A8 : (2 < Ar.length) = True := eq_true (by omega)
 (try rw [show ((2 : Int)).toNat = 2 from rfl] at Ap)
 replace p628 := eq_true p628
 replace q628 := eq_true q628
 try (have AO := q628; simp only [ByteArray.size_extract, Nat.min_self] at AO)
 have BW := Al.out
 have BX := Ak.out
 have Da := xz8 Aj.out
 go_wp2
 go_roundg k4
 case measure => have := HK1.out; have := HJ70.out; have := HJ81.out; have := HK4.out; omega
 case rel => exact ⟨(wrap64 (2 + 1)), (AB), (AC), (rd Ar 2), (AE), (AF), (AG), (AH), (AI), xrr, H, ⟨by have := HK1.out; have := HJ70.out; have := HJ81.out; have := HK4.out; omega⟩, ⟨by (with_reducible repeat (first | apply Kd.R_alloc | apply Kd.R_drewN | apply Kd.R_drew)); exact Kd.R_mono (Kd.R_far (p := ⟨Ao, 2, none⟩) (Kd.R_types As.out Aj.out (by decide)) (fun _ hk => hk.2) (.int .i64 (rd Ar 2))) (fun _ hk => hk.1)⟩, ⟨by (with_reducible repeat (first | apply Kd.R_alloc | apply Kd.R_drewN | apply Kd.R_drew)); exact Kd.R_mono (Kd.R_far (p := ⟨Ao, 2, none⟩) (Kd.R_types Aq.out Aj.out (by decide)) (fun _ hk => hk.2) (.int .i64 (rd Ar 2))) (fun _ hk => hk.1)⟩, ⟨xbK⟩, ⟨xbK⟩, ⟨xbl⟩⟩
 }
 {
 rw [if_neg c101] at H
 clear c101
 by_cases c105 : AT = 3
 {
 subst c105
 rw [if_pos rfl] at H
 replace H := xa H
 obtain ⟨Ao106, co106, eo106⟩ := Kd.R_slice As.out
 subst eo106
 have p628 : 0 ≤ (3 : Int) := (by omega)
 have q628 : 3 < (Ar.length : Int) := xod
 obtain ⟨A7, e628, Ap⟩ := Kd.at_int (Kd.R_reads' As.out).2.2 3 p628 q628
 cases e628
 (try simp only [show (3 : Int).toNat = 3 from rfl, Nat.reduceMul, Nat.reduceEqDiff, Go.Addr.add, ↓reduceIte] at Ap)
 have A8 : (3 < Ar.length) = True := eq_true (by omega)
 (try rw [show ((3 : Int)).toNat = 3 from rfl] at Ap)
 replace p628 := eq_true p628
 replace q628 := eq_true q628
 try (have AO := q628; simp only [ByteArray.size_extract, Nat.min_self] at AO)
 have BY := Al.out
 have BZ := Ak.out
 have Db := xz8 Aj.out
 go_wp2
 go_roundg k4
 case measure => have := HK1.out; have := HJ70.out; have := HJ81.out; have := HK4.out; omega
 case rel => exact ⟨(wrap64 (3 + 1)), (AB), (AC), (AD), (rd Ar 3), (AF), (AG), (AH), (AI), xrr, H, ⟨by have := HK1.out; have := HJ70.out; have := HJ81.out; have := HK4.out; omega⟩, ⟨by (with_reducible repeat (first | apply Kd.R_alloc | apply Kd.R_drewN | apply Kd.R_drew)); exact Kd.R_mono (Kd.R_far (p := ⟨Ao, 3, none⟩) (Kd.R_types As.out Aj.out (by decide)) (fun _ hk => hk.2) (.int .i64 (rd Ar 3))) (fun _ hk => hk.1)⟩, ⟨by (with_reducible repeat (first | apply Kd.R_alloc | apply Kd.R_drewN | apply Kd.R_drew)); exact Kd.R_mono (Kd.R_far (p := ⟨Ao, 3, none⟩) (Kd.R_types Aq.out Aj.out (by decide)) (fun _ hk => hk.2) (.int .i64 (rd Ar 3))) (fun _ hk => hk.1)⟩, ⟨xbK⟩, ⟨xbK⟩, ⟨xbl⟩⟩
 }
 {
 rw [if_neg c105] at H
 clear c105
 by_cases c109 : AT = 4
 {
 subst c109
 rw [if_pos rfl] at H
 replace H := xa H
 obtain ⟨Ao110, co110, eo110⟩ := Kd.R_slice As.out
 subst eo110
 have p628 : 0 ≤ (4 : Int) := (by omega)
 have q628 : 4 < (Ar.length : Int) := xod
 obtain ⟨A7, e628, Ap⟩ := Kd.at_int (Kd.R_reads' As.out).2.2 4 p628 q628
 cases e628
 (try simp only [show (4 : Int).toNat = 4 from rfl, Nat.reduceMul, Nat.reduceEqDiff, Go.Addr.add, ↓reduceIte] at Ap)
 have A8 : (4 < Ar.length) = True := eq_true (by omega)
 (try rw [show ((4 : Int)).toNat = 4 from rfl] at Ap)
 replace p628 := eq_true p628
 replace q628 := eq_true q628
 try (have AO := q628; simp only [ByteArray.size_extract, Nat.min_self] at AO)
 have B0 := Al.out
 have B1 := Ak.out
 have Dc := xz8 Aj.out
 go_wp2
 go_roundg k4
 case measure => have := HK1.out; have := HJ70.out; have := HJ81.out; have := HK4.out; omega
 case rel => exact ⟨(wrap64 (4 + 1)), (AB), (AC), (AD), (AE), (rd Ar 4), (AG), (AH), (AI), xrr, H, ⟨by have := HK1.out; have := HJ70.out; have := HJ81.out; have := HK4.out; omega⟩, ⟨by (with_reducible repeat (first | apply Kd.R_alloc | apply Kd.R_drewN | apply Kd.R_drew)); exact Kd.R_mono (Kd.R_far (p := ⟨Ao, 4, none⟩) (Kd.R_types As.out Aj.out (by decide)) (fun _ hk => hk.2) (.int .i64 (rd Ar 4))) (fun _ hk => hk.1)⟩, ⟨by (with_reducible repeat (first | apply Kd.R_alloc | apply Kd.R_drewN | apply Kd.R_drew)); exact Kd.R_mono (Kd.R_far (p := ⟨Ao, 4, none⟩) (Kd.R_types Aq.out Aj.out (by decide)) (fun _ hk => hk.2) (.int .i64 (rd Ar 4))) (fun _ hk => hk.1)⟩, ⟨xbK⟩, ⟨xbK⟩, ⟨xbl⟩⟩
 }
 {
 rw [if_neg c109] at H
 clear c109
 by_cases c113 : AT = 5
 {
 subst c113
 rw [if_pos rfl] at H
 replace H := xa H
 obtain ⟨Ao114, co114, eo114⟩ := Kd.R_slice As.out
 subst eo114
 have p628 : 0 ≤ (5 : Int) := (by omega)
 have q628 : 5 < (Ar.length : Int) := xod
 obtain ⟨A7, e628, Ap⟩ := Kd.at_int (Kd.R_reads' As.out).2.2 5 p628 q628
 cases e628
 (try simp only [show (5 : Int).toNat = 5 from rfl, Nat.reduceMul, Nat.reduceEqDiff, Go.Addr.add, ↓reduceIte] at Ap)
 have A8 : (5 < Ar.length) = True := eq_true (by omega)
 (try rw [show ((5 : Int)).toNat = 5 from rfl] at Ap)
 replace p628 := eq_true p628
 replace q628 := eq_true q628
 try (have AO := q628; simp only [ByteArray.size_extract, Nat.min_self] at AO)
 have B2 := Al.out
 have B3 := Ak.out
 have Dd := xz8 Aj.out
 go_wp2
 go_roundg k4
 case measure => have := HK1.out; have := HJ70.out; have := HJ81.out; have := HK4.out; omega
 case rel => exact ⟨(wrap64 (5 + 1)), (AB), (AC), (AD), (AE), (AF), (rd Ar 5), (AH), (AI), xrr, H, ⟨by have := HK1.out; have := HJ70.out; have := HJ81.out; have := HK4.out; omega⟩, ⟨by (with_reducible repeat (first | apply Kd.R_alloc | apply Kd.R_drewN | apply Kd.R_drew)); exact Kd.R_mono (Kd.R_far (p := ⟨Ao, 5, none⟩) (Kd.R_types As.out Aj.out (by decide)) (fun _ hk => hk.2) (.int .i64 (rd Ar 5))) (fun _ hk => hk.1)⟩, ⟨by (with_reducible repeat (first | apply Kd.R_alloc | apply Kd.R_drewN | apply Kd.R_drew)); exact Kd.R_mono (Kd.R_far (p := ⟨Ao, 5, none⟩) (Kd.R_types Aq.out Aj.out (by decide)) (fun _ hk => hk.2) (.int .i64 (rd Ar 5))) (fun _ hk => hk.1)⟩, ⟨xbK⟩, ⟨xbK⟩, ⟨xbl⟩⟩
 }
 {
 rw [if_neg c113] at H
 clear c113
 by_cases c117 : AT = 6
 {
 subst c117
 rw [if_pos rfl] at H
 replace H := xa H
 obtain ⟨Ao118, co118, eo118⟩ := Kd.R_slice As.out
 subst eo118
 have p628 : 0 ≤ (6 : Int) := (by omega)
 have q628 : 6 < (Ar.length : Int) := xod
 obtain ⟨A7, e628, Ap⟩ := Kd.at_int (Kd.R_reads' As.out).2.2 6 p628 q628
 cases e628
 (try simp only [show (6 : Int).toNat = 6 from rfl, Nat.reduceMul, Nat.reduceEqDiff, Go.Addr.add, ↓reduceIte] at Ap)
 have A8 : (6 < Ar.length) = True := eq_true (by omega)
 (try rw [show ((6 : Int)).toNat = 6 from rfl] at Ap)
 replace p628 := eq_true p628
 replace q628 := eq_true q628
 try (have AO := q628; simp only [ByteArray.size_extract, Nat.min_self] at AO)
 have B4 := Al.out
 have B5 := Ak.out
 have De := xz8 Aj.out
 go_wp2
 go_roundg k4
 case measure => have := HK1.out; have := HJ70.out; have := HJ81.out; have := HK4.out; omega
 case rel => exact ⟨(wrap64 (6 + 1)), (AB), (AC), (AD), (AE), (AF), (AG), (rd Ar 6), (AI), xrr, H, ⟨by have := HK1.out; have := HJ70.out; have := HJ81.out; have := HK4.out; omega⟩, ⟨by (with_reducible repeat (first | apply Kd.R_alloc | apply Kd.R_drewN | apply Kd.R_drew)); exact Kd.R_mono (Kd.R_far (p := ⟨Ao, 6, none⟩) (Kd.R_types As.out Aj.out (by decide)) (fun _ hk => hk.2) (.int .i64 (rd Ar 6))) (fun _ hk => hk.1)⟩, ⟨by (with_reducible repeat (first | apply Kd.R_alloc | apply Kd.R_drewN | apply Kd.R_drew)); exact Kd.R_mono (Kd.R_far (p := ⟨Ao, 6, none⟩) (Kd.R_types Aq.out Aj.out (by decide)) (fun _ hk => hk.2) (.int .i64 (rd Ar 6))) (fun _ hk => hk.1)⟩, ⟨xbK⟩, ⟨xbK⟩, ⟨xbl⟩⟩
 }
 {
 rw [if_neg c117] at H
 clear c117
 by_cases c121 : AT = 7
 {
 subst c121
 rw [if_pos rfl] at H
 replace H := xa H
 obtain ⟨Ao122, co122, eo122⟩ := Kd.R_slice As.out
 subst eo122
 have p628 : 0 ≤ (7 : Int) := (by omega)
 have q628 : 7 < (Ar.length : Int) := xod
 obtain ⟨A7, e628, Ap⟩ := Kd.at_int (Kd.R_reads' As.out).2.2 7 p628 q628
 cases e628
 (try simp only [show (7 : Int).toNat = 7 from rfl, Nat.reduceMul, Nat.reduceEqDiff, Go.Addr.add, ↓reduceIte] at Ap)
 have A8 : (7 < Ar.length) = True := eq_true (by omega)
 (try rw [show ((7 : Int)).toNat = 7 from rfl] at Ap)
 replace p628 := eq_true p628
 replace q628 := eq_true q628
 try (have AO := q628; simp only [ByteArray.size_extract, Nat.min_self] at AO)
 have B6 := Al.out
 have B7 := Ak.out
 have Df := xz8 Aj.out
 go_wp2
 go_roundg k4
 case measure => have := HK1.out; have := HJ70.out; have := HJ81.out; have := HK4.out; omega
 case rel => exact ⟨(wrap64 (7 + 1)), (AB), (AC), (AD), (AE), (AF), (AG), (AH), (rd Ar 7), xrr, H, ⟨by have := HK1.out; have := HJ70.out; have := HJ81.out; have := HK4.out; omega⟩, ⟨by (with_reducible repeat (first | apply Kd.R_alloc | apply Kd.R_drewN | apply Kd.R_drew)); exact Kd.R_mono (Kd.R_far (p := ⟨Ao, 7, none⟩) (Kd.R_types As.out Aj.out (by decide)) (fun _ hk => hk.2) (.int .i64 (rd Ar 7))) (fun _ hk => hk.1)⟩, ⟨by (with_reducible repeat (first | apply Kd.R_alloc | apply Kd.R_drewN | apply Kd.R_drew)); exact Kd.R_mono (Kd.R_far (p := ⟨Ao, 7, none⟩) (Kd.R_types Aq.out Aj.out (by decide)) (fun _ hk => hk.2) (.int .i64 (rd Ar 7))) (fun _ hk => hk.1)⟩, ⟨xbK⟩, ⟨xbK⟩, ⟨xbl⟩⟩
 }
 {
 rw [if_neg c121] at H
 clear c121
 exact absurd H (by simp)
 }
 }
 }
 }
 }
 }
 }
 }
 }
 have Bt := xdf c91
 clear c91
 have H' := Zz.mk H
 clear H
 obtain ⟨Ao125, co125, eo125⟩ := Kd.R_slice As.out
 subst eo125
 go_wp2
 go_loopg [15] k4 (fun kq v15 w' => ∃ Aa Ab Ac Ad Ae Af Ag Ah Ai, v15 = .int .i64 Aa ∧ Zz (al kq Am Aa Ab Ac Ad Ae Af Ag Ah Ai = some (r1, r2, r3, r4, r5, r6, r7, r8, r9)) ∧ Zz (kq ≤ k4) ∧ Zz (Kd.R (Kd.int .i64) 3 w' w.heap.size (fun _ => True) v625 Am) ∧ Zz (w'.heap[AK]? = some (.cells #[.int .i64 0, .int .i64 0, .int .i64 0, .int .i64 0, .int .i64 0, .int .i64 0, .int .i64 0, .int .i64 0] 104 (0, 0))) ∧ Zz (w'.heap[Ao]? = some (.cells #[.int .i64 Ab, .int .i64 Ac, .int .i64 Ad, .int .i64 Ae, .int .i64 Af, .int .i64 Ag, .int .i64 Ah, .int .i64 Ai] 104 (0, 0))) ∧ Zz (Below w.heap.size w w'))
 case atStart => exact ⟨(0), (AB), (AC), (AD), (AE), (AF), (AG), (AH), (AI), xrr, H', ⟨Nat.le_refl _⟩, ⟨by (with_reducible repeat (first | apply Kd.R_alloc | apply Kd.R_drewN | apply Kd.R_drew)); exact Kd.R_mono Aq.out (fun _ hk => trivial)⟩, ⟨xbk⟩, ⟨xbk⟩, ⟨xbl⟩⟩
 case round => (
 clear H'
 clear Bt
 try clear An
 try clear Ap
 obtain ⟨Aa, Ab, Ac, Ad, Ae, Af, Ag, Ah, Ai, rfl, HA, HK5, Aq, AM, Aj, HB⟩ := hrel
 cases gk with
 | zero => exact absurd HA.out (by simp [al])
 | succ k5 => (
 have H := HA.out
 clear HA
 simp only [al] at H
 refine xid H ?_ ?_ <;> clear H <;> intro c126 H
 {
 have BB := xdt c126
 clear c126
 refine xin H ?_; clear H; intro c127 H
 have B8 := xdt c127
 clear c127
 obtain ⟨Bu, AP⟩ : ∃ j_ : Int, (wrap64 ((wrap64 (8 - (Am.length : Int))) + Aa)) = j_ := ⟨_, rfl⟩
 first | rw [AP] at H | simp only [AP] at H | skip
 have BQ : (IntKind.i64.wrap ((wrap64 (8 - (Am.length : Int))) + Aa)) = Bu := (ag _).trans AP
 refine xin H ?_; clear H; intro c129 H
 have B9 := xdt c129
 clear c129
 obtain ⟨AV, AR⟩ : ∃ j_ : Int, (Bu) = j_ := ⟨_, rfl⟩
 replace H : (if AV = 0 then (al k5 Am (wrap64 (Aa + 1)) (rd Am Aa) Ac Ad Ae Af Ag Ah Ai) else (if (AV) = 1 then (al k5 Am (wrap64 (Aa + 1)) Ab (rd Am Aa) Ad Ae Af Ag Ah Ai) else (if (AV) = 2 then (al k5 Am (wrap64 (Aa + 1)) Ab Ac (rd Am Aa) Ae Af Ag Ah Ai) else (if (AV) = 3 then (al k5 Am (wrap64 (Aa + 1)) Ab Ac Ad (rd Am Aa) Af Ag Ah Ai) else (if (AV) = 4 then (al k5 Am (wrap64 (Aa + 1)) Ab Ac Ad Ae (rd Am Aa) Ag Ah Ai) else (if (AV) = 5 then (al k5 Am (wrap64 (Aa + 1)) Ab Ac Ad Ae Af (rd Am Aa) Ah Ai) else (if (AV) = 6 then (al k5 Am (wrap64 (Aa + 1)) Ab Ac Ad Ae Af Ag (rd Am Aa) Ai) else (if (AV) = 7 then (al k5 Am (wrap64 (Aa + 1)) Ab Ac Ad Ae Af Ag Ah (rd Am Aa)) else (none))))))))) = some (r1, r2, r3, r4, r5, r6, r7, r8, r9) := by first | (rw [AR] at H; exact H) | (simp only [AR] at H ⊢; exact H)
 by_cases c131 : AV = 0
 {
 subst c131
 rw [if_pos rfl] at H
 replace H := xa H
 obtain ⟨Ao132, co132, eo132⟩ := Kd.R_slice Aq.out
 subst eo132
 have p629 : 0 ≤ (Aa : Int) := xod
 have q629 : Aa < (Am.length : Int) := xod
 obtain ⟨A9, e629, AS⟩ := Kd.at_int (Kd.R_reads' Aq.out).2.2 Aa p629 q629
 cases e629
 replace p629 := eq_true p629
 replace q629 := eq_true q629
 try (have AQ := q629; simp only [ByteArray.size_extract, Nat.min_self] at AQ)
 have Ca := Al.out
 have Cb := Ak.out
 have Dg := xz8 Aj.out
 go_wp2
 first | go_roundg k5 | (simp only [← AP]; go_roundg k5)
 case measure => have := HK1.out; have := HJ70.out; have := HJ81.out; have := HK4.out; have := HK5.out; omega
 case rel => exact ⟨(wrap64 (Aa + 1)), (rd Am Aa), (Ac), (Ad), (Ae), (Af), (Ag), (Ah), (Ai), xrr, H, ⟨by have := HK1.out; have := HJ70.out; have := HJ81.out; have := HK4.out; have := HK5.out; omega⟩, ⟨by (with_reducible repeat (first | apply Kd.R_alloc | apply Kd.R_drewN | apply Kd.R_drew)); exact Kd.R_mono (Kd.R_far (p := ⟨Ao, 0, none⟩) (Kd.R_types Aq.out Aj.out (by decide)) (fun _ hk => hk.2) (.int .i64 (rd Am Aa))) (fun _ hk => trivial)⟩, ⟨xbK⟩, ⟨xbK⟩, ⟨xbl⟩⟩
 }
 {
 rw [if_neg c131] at H
 clear c131
 obtain ⟨AY, AU⟩ : ∃ j_ : Int, (AV) = j_ := ⟨_, rfl⟩
 replace H : (if AY = 1 then (al k5 Am (wrap64 (Aa + 1)) Ab (rd Am Aa) Ad Ae Af Ag Ah Ai) else (if (AY) = 2 then (al k5 Am (wrap64 (Aa + 1)) Ab Ac (rd Am Aa) Ae Af Ag Ah Ai) else (if (AY) = 3 then (al k5 Am (wrap64 (Aa + 1)) Ab Ac Ad (rd Am Aa) Af Ag Ah Ai) else (if (AY) = 4 then (al k5 Am (wrap64 (Aa + 1)) Ab Ac Ad Ae (rd Am Aa) Ag Ah Ai) else (if (AY) = 5 then (al k5 Am (wrap64 (Aa + 1)) Ab Ac Ad Ae Af (rd Am Aa) Ah Ai) else (if (AY) = 6 then (al k5 Am (wrap64 (Aa + 1)) Ab Ac Ad Ae Af Ag (rd Am Aa) Ai) else (if (AY) = 7 then (al k5 Am (wrap64 (Aa + 1)) Ab Ac Ad Ae Af Ag Ah (rd Am Aa)) else (none)))))))) = some (r1, r2, r3, r4, r5, r6, r7, r8, r9) := by first | (rw [AU] at H; exact H) | (simp only [AU] at H ⊢; exact H)
 by_cases c136 : AY = 1
 {
 subst c136
 rw [if_pos rfl] at H
 replace H := xa H
 obtain ⟨Ao137, co137, eo137⟩ := Kd.R_slice Aq.out
 subst eo137
 have p629 : 0 ≤ (Aa : Int) := xod
 have q629 : Aa < (Am.length : Int) := xod
 obtain ⟨A9, e629, AS⟩ := Kd.at_int (Kd.R_reads' Aq.out).2.2 Aa p629 q629
 cases e629
 replace p629 := eq_true p629
 replace q629 := eq_true q629
 try (have AQ := q629; simp only [ByteArray.size_extract, Nat.min_self] at AQ)
 have Cc := Al.out
 have Cd := Ak.out
 have Dh := xz8 Aj.out
 go_wp2
 first | go_roundg k5 | (simp only [← AP, ← AR]; go_roundg k5)
 case measure => have := HK1.out; have := HJ70.out; have := HJ81.out; have := HK4.out; have := HK5.out; omega
 case rel => exact ⟨(wrap64 (Aa + 1)), (Ab), (rd Am Aa), (Ad), (Ae), (Af), (Ag), (Ah), (Ai), xrr, H, ⟨by have := HK1.out; have := HJ70.out; have := HJ81.out; have := HK4.out; have := HK5.out; omega⟩, ⟨by (with_reducible repeat (first | apply Kd.R_alloc | apply Kd.R_drewN | apply Kd.R_drew)); exact Kd.R_mono (Kd.R_far (p := ⟨Ao, 1, none⟩) (Kd.R_types Aq.out Aj.out (by decide)) (fun _ hk => hk.2) (.int .i64 (rd Am Aa))) (fun _ hk => trivial)⟩, ⟨xbK⟩, ⟨xbK⟩, ⟨xbl⟩⟩
 }
 {
 rw [if_neg c136] at H
 clear c136
 obtain ⟨A0, AW⟩ : ∃ j_ : Int, (AY) = j_ := ⟨_, rfl⟩
 replace H : (if A0 = 2 then (al k5 Am (wrap64 (Aa + 1)) Ab Ac (rd Am Aa) Ae Af Ag Ah Ai) else (if (A0) = 3 then (al k5 Am (wrap64 (Aa + 1)) Ab Ac Ad (rd Am Aa) Af Ag Ah Ai) else (if (A0) = 4 then (al k5 Am (wrap64 (Aa + 1)) Ab Ac Ad Ae (rd Am Aa) Ag Ah Ai) else (if (A0) = 5 then (al k5 Am (wrap64 (Aa + 1)) Ab Ac Ad Ae Af (rd Am Aa) Ah Ai) else (if (A0) = 6 then (al k5 Am (wrap64 (Aa + 1)) Ab Ac Ad Ae Af Ag (rd Am Aa) Ai) else (if (A0) = 7 then (al k5 Am (wrap64 (Aa + 1)) Ab Ac Ad Ae Af Ag Ah (rd Am Aa)) else (none))))))) = some (r1, r2, r3, r4, r5, r6, r7, r8, r9) := by first | (rw [AW] at H; exact H) | (simp only [AW] at H ⊢; exact H)
 by_cases c141 : A0 = 2
 {
 subst c141
 rw [if_pos rfl] at H
 replace H := xa H
 obtain ⟨Ao142, co142, eo142⟩ := Kd.R_slice Aq.out
 subst eo142
 have p629 : 0 ≤ (Aa : Int) := xod
 have q629 : Aa < (Am.length : Int) := xod
 obtain ⟨A9, e629, AS⟩ := Kd.at_int (Kd.R_reads' Aq.out).2.2 Aa p629 q629
 cases e629
 replace p629 := eq_true p629
 replace q629 := eq_true q629
 try (have AQ := q629; simp only [ByteArray.size_extract, Nat.min_self] at AQ)
 have Ce := Al.out
 have Cf := Ak.out
 have Di := xz8 Aj.out
 go_wp2
 first | go_roundg k5 | (simp only [← AP, ← AR, ← AU]; go_roundg k5)
 case measure => have := HK1.out; have := HJ70.out; have := HJ81.out; have := HK4.out; have := HK5.out; omega
 case rel => exact ⟨(wrap64 (Aa + 1)), (Ab), (Ac), (rd Am Aa), (Ae), (Af), (Ag), (Ah), (Ai), xrr, H, ⟨by have := HK1.out; have := HJ70.out; have := HJ81.out; have := HK4.out; have := HK5.out; omega⟩, ⟨by (with_reducible repeat (first | apply Kd.R_alloc | apply Kd.R_drewN | apply Kd.R_drew)); exact Kd.R_mono (Kd.R_far (p := ⟨Ao, 2, none⟩) (Kd.R_types Aq.out Aj.out (by decide)) (fun _ hk => hk.2) (.int .i64 (rd Am Aa))) (fun _ hk => trivial)⟩, ⟨xbK⟩, ⟨xbK⟩, ⟨xbl⟩⟩
 }
 {
 rw [if_neg c141] at H
 clear c141
 obtain ⟨Ba, AZ⟩ : ∃ j_ : Int, (A0) = j_ := ⟨_, rfl⟩
 replace H : (if Ba = 3 then (al k5 Am (wrap64 (Aa + 1)) Ab Ac Ad (rd Am Aa) Af Ag Ah Ai) else (if (Ba) = 4 then (al k5 Am (wrap64 (Aa + 1)) Ab Ac Ad Ae (rd Am Aa) Ag Ah Ai) else (if (Ba) = 5 then (al k5 Am (wrap64 (Aa + 1)) Ab Ac Ad Ae Af (rd Am Aa) Ah Ai) else (if (Ba) = 6 then (al k5 Am (wrap64 (Aa + 1)) Ab Ac Ad Ae Af Ag (rd Am Aa) Ai) else (if (Ba) = 7 then (al k5 Am (wrap64 (Aa + 1)) Ab Ac Ad Ae Af Ag Ah (rd Am Aa)) else (none)))))) = some (r1, r2, r3, r4, r5, r6, r7, r8, r9) := by first | (rw [AZ] at H; exact H) | (simp only [AZ] at H ⊢; exact H)
 by_cases c146 : Ba = 3
 {
 subst c146
 rw [if_pos rfl] at H
 replace H := xa H
 obtain ⟨Ao147, co147, eo147⟩ := Kd.R_slice Aq.out
 subst eo147
 have p629 : 0 ≤ (Aa : Int) := xod
 have q629 : Aa < (Am.length : Int) := xod
 obtain ⟨A9, e629, AS⟩ := Kd.at_int (Kd.R_reads' Aq.out).2.2 Aa p629 q629
 cases e629
 replace p629 := eq_true p629
 replace q629 := eq_true q629
 try (have AQ := q629; simp only [ByteArray.size_extract, Nat.min_self] at AQ)
 have Cg := Al.out
 have Ch := Ak.out
 have Dj := xz8 Aj.out
 go_wp2
 first | go_roundg k5 | (simp only [← AP, ← AR, ← AU, ← AW]; go_roundg k5)
 case measure => have := HK1.out; have := HJ70.out; have := HJ81.out; have := HK4.out; have := HK5.out; omega
 case rel => exact ⟨(wrap64 (Aa + 1)), (Ab), (Ac), (Ad), (rd Am Aa), (Af), (Ag), (Ah), (Ai), xrr, H, ⟨by have := HK1.out; have := HJ70.out; have := HJ81.out; have := HK4.out; have := HK5.out; omega⟩, ⟨by (with_reducible repeat (first | apply Kd.R_alloc | apply Kd.R_drewN | apply Kd.R_drew)); exact Kd.R_mono (Kd.R_far (p := ⟨Ao, 3, none⟩) (Kd.R_types Aq.out Aj.out (by decide)) (fun _ hk => hk.2) (.int .i64 (rd Am Aa))) (fun _ hk => trivial)⟩, ⟨xbK⟩, ⟨xbK⟩, ⟨xbl⟩⟩
 }
 {
 rw [if_neg c146] at H
 clear c146
 obtain ⟨Bd, Bb⟩ : ∃ j_ : Int, (Ba) = j_ := ⟨_, rfl⟩
 replace H : (if Bd = 4 then (al k5 Am (wrap64 (Aa + 1)) Ab Ac Ad Ae (rd Am Aa) Ag Ah Ai) else (if (Bd) = 5 then (al k5 Am (wrap64 (Aa + 1)) Ab Ac Ad Ae Af (rd Am Aa) Ah Ai) else (if (Bd) = 6 then (al k5 Am (wrap64 (Aa + 1)) Ab Ac Ad Ae Af Ag (rd Am Aa) Ai) else (if (Bd) = 7 then (al k5 Am (wrap64 (Aa + 1)) Ab Ac Ad Ae Af Ag Ah (rd Am Aa)) else (none))))) = some (r1, r2, r3, r4, r5, r6, r7, r8, r9) := by first | (rw [Bb] at H; exact H) | (simp only [Bb] at H ⊢; exact H)
 by_cases c151 : Bd = 4
 {
 subst c151
 rw [if_pos rfl] at H
 replace H := xa H
 obtain ⟨Ao152, co152, eo152⟩ := Kd.R_slice Aq.out
 subst eo152
 have p629 : 0 ≤ (Aa : Int) := xod
 have q629 : Aa < (Am.length : Int) := xod
 obtain ⟨A9, e629, AS⟩ := Kd.at_int (Kd.R_reads' Aq.out).2.2 Aa p629 q629
 cases e629
 replace p629 := eq_true p629
 replace q629 := eq_true q629
 try (have AQ := q629; simp only [ByteArray.size_extract, Nat.min_self] at AQ)
 have Ci := Al.out
 have Cj := Ak.out
 have Dk := xz8 Aj.out
 go_wp2
 first | go_roundg k5 | (simp only [← AP, ← AR, ← AU, ← AW, ← AZ]; go_roundg k5)
 case measure => have := HK1.out; have := HJ70.out; have := HJ81.out; have := HK4.out; have := HK5.out; omega
 case rel => exact ⟨(wrap64 (Aa + 1)), (Ab), (Ac), (Ad), (Ae), (rd Am Aa), (Ag), (Ah), (Ai), xrr, H, ⟨by have := HK1.out; have := HJ70.out; have := HJ81.out; have := HK4.out; have := HK5.out; omega⟩, ⟨by (with_reducible repeat (first | apply Kd.R_alloc | apply Kd.R_drewN | apply Kd.R_drew)); exact Kd.R_mono (Kd.R_far (p := ⟨Ao, 4, none⟩) (Kd.R_types Aq.out Aj.out (by decide)) (fun _ hk => hk.2) (.int .i64 (rd Am Aa))) (fun _ hk => trivial)⟩, ⟨xbK⟩, ⟨xbK⟩, ⟨xbl⟩⟩
 }
 {
 rw [if_neg c151] at H
 clear c151
 obtain ⟨Bi, Bf⟩ : ∃ j_ : Int, (Bd) = j_ := ⟨_, rfl⟩
 replace H : (if Bi = 5 then (al k5 Am (wrap64 (Aa + 1)) Ab Ac Ad Ae Af (rd Am Aa) Ah Ai) else (if (Bi) = 6 then (al k5 Am (wrap64 (Aa + 1)) Ab Ac Ad Ae Af Ag (rd Am Aa) Ai) else (if (Bi) = 7 then (al k5 Am (wrap64 (Aa + 1)) Ab Ac Ad Ae Af Ag Ah (rd Am Aa)) else (none)))) = some (r1, r2, r3, r4, r5, r6, r7, r8, r9) := by first | (rw [Bf] at H; exact H) | (simp only [Bf] at H ⊢; exact H)
 by_cases c156 : Bi = 5
 {
 subst c156
 rw [if_pos rfl] at H
 replace H := xa H
 obtain ⟨Ao157, co157, eo157⟩ := Kd.R_slice Aq.out
 subst eo157
 have p629 : 0 ≤ (Aa : Int) := xod
 have q629 : Aa < (Am.length : Int) := xod
 obtain ⟨A9, e629, AS⟩ := Kd.at_int (Kd.R_reads' Aq.out).2.2 Aa p629 q629
 cases e629
 replace p629 := eq_true p629
 replace q629 := eq_true q629
 try (have AQ := q629; simp only [ByteArray.size_extract, Nat.min_self] at AQ)
 have Ck := Al.out
 have Cl := Ak.out
 have Dl := xz8 Aj.out
 go_wp2
 first | go_roundg k5 | (simp only [← AP, ← AR, ← AU, ← AW, ← AZ, ← Bb]; go_roundg k5)
 case measure => have := HK1.out; have := HJ70.out; have := HJ81.out; have := HK4.out; have := HK5.out; omega
 case rel => exact ⟨(wrap64 (Aa + 1)), (Ab), (Ac), (Ad), (Ae), (Af), (rd Am Aa), (Ah), (Ai), xrr, H, ⟨by have := HK1.out; have := HJ70.out; have := HJ81.out; have := HK4.out; have := HK5.out; omega⟩, ⟨by (with_reducible repeat (first | apply Kd.R_alloc | apply Kd.R_drewN | apply Kd.R_drew)); exact Kd.R_mono (Kd.R_far (p := ⟨Ao, 5, none⟩) (Kd.R_types Aq.out Aj.out (by decide)) (fun _ hk => hk.2) (.int .i64 (rd Am Aa))) (fun _ hk => trivial)⟩, ⟨xbK⟩, ⟨xbK⟩, ⟨xbl⟩⟩
 }
 {
 rw [if_neg c156] at H
 clear c156
 obtain ⟨Bo, Bm⟩ : ∃ j_ : Int, (Bi) = j_ := ⟨_, rfl⟩
 replace H : (if Bo = 6 then (al k5 Am (wrap64 (Aa + 1)) Ab Ac Ad Ae Af Ag (rd Am Aa) Ai) else (if (Bo) = 7 then (al k5 Am (wrap64 (Aa + 1)) Ab Ac Ad Ae Af Ag Ah (rd Am Aa)) else (none))) = some (r1, r2, r3, r4, r5, r6, r7, r8, r9) := by first | (rw [Bm] at H; exact H) | (simp only [Bm] at H ⊢; exact H)
 by_cases c161 : Bo = 6
 {
 subst c161
 rw [if_pos rfl] at H
 replace H := xa H
 obtain ⟨Ao162, co162, eo162⟩ := Kd.R_slice Aq.out
 subst eo162
 have p629 : 0 ≤ (Aa : Int) := xod
 have q629 : Aa < (Am.length : Int) := xod
 obtain ⟨A9, e629, AS⟩ := Kd.at_int (Kd.R_reads' Aq.out).2.2 Aa p629 q629
 cases e629
 replace p629 := eq_true p629
 replace q629 := eq_true q629
 try (have AQ := q629; simp only [ByteArray.size_extract, Nat.min_self] at AQ)
 have Cm := Al.out
 have Cn := Ak.out
 have Dm := xz8 Aj.out
 go_wp2
 first | go_roundg k5 | (simp only [← AP, ← AR, ← AU, ← AW, ← AZ, ← Bb, ← Bf]; go_roundg k5)
 case measure => have := HK1.out; have := HJ70.out; have := HJ81.out; have := HK4.out; have := HK5.out; omega
 case rel => exact ⟨(wrap64 (Aa + 1)), (Ab), (Ac), (Ad), (Ae), (Af), (Ag), (rd Am Aa), (Ai), xrr, H, ⟨by have := HK1.out; have := HJ70.out; have := HJ81.out; have := HK4.out; have := HK5.out; omega⟩, ⟨by (with_reducible repeat (first | apply Kd.R_alloc | apply Kd.R_drewN | apply Kd.R_drew)); exact Kd.R_mono (Kd.R_far (p := ⟨Ao, 6, none⟩) (Kd.R_types Aq.out Aj.out (by decide)) (fun _ hk => hk.2) (.int .i64 (rd Am Aa))) (fun _ hk => trivial)⟩, ⟨xbK⟩, ⟨xbK⟩, ⟨xbl⟩⟩
 }
 {
 rw [if_neg c161] at H
 clear c161
 obtain ⟨Bv, Bs⟩ : ∃ j_ : Int, (Bo) = j_ := ⟨_, rfl⟩
 replace H : (if Bv = 7 then (al k5 Am (wrap64 (Aa + 1)) Ab Ac Ad Ae Af Ag Ah (rd Am Aa)) else (none)) = some (r1, r2, r3, r4, r5, r6, r7, r8, r9) := by first | (rw [Bs] at H; exact H) | (simp only [Bs] at H ⊢; exact H)
 by_cases c166 : Bv = 7
 {
 subst c166
 rw [if_pos rfl] at H
 replace H := xa H
 obtain ⟨Ao167, co167, eo167⟩ := Kd.R_slice Aq.out
 subst eo167
 have p629 : 0 ≤ (Aa : Int) := xod
 have q629 : Aa < (Am.length : Int) := xod
 obtain ⟨A9, e629, AS⟩ := Kd.at_int (Kd.R_reads' Aq.out).2.2 Aa p629 q629
 cases e629
 replace p629 := eq_true p629
 replace q629 := eq_true q629
 try (have AQ := q629; simp only [ByteArray.size_extract, Nat.min_self] at AQ)
 have Co := Al.out
 have Cp := Ak.out
 have Dn := xz8 Aj.out
 go_wp2
 first | go_roundg k5 | (simp only [← AP, ← AR, ← AU, ← AW, ← AZ, ← Bb, ← Bf, ← Bm]; go_roundg k5)
 case measure => have := HK1.out; have := HJ70.out; have := HJ81.out; have := HK4.out; have := HK5.out; omega
 case rel => exact ⟨(wrap64 (Aa + 1)), (Ab), (Ac), (Ad), (Ae), (Af), (Ag), (Ah), (rd Am Aa), xrr, H, ⟨by have := HK1.out; have := HJ70.out; have := HJ81.out; have := HK4.out; have := HK5.out; omega⟩, ⟨by (with_reducible repeat (first | apply Kd.R_alloc | apply Kd.R_drewN | apply Kd.R_drew)); exact Kd.R_mono (Kd.R_far (p := ⟨Ao, 7, none⟩) (Kd.R_types Aq.out Aj.out (by decide)) (fun _ hk => hk.2) (.int .i64 (rd Am Aa))) (fun _ hk => trivial)⟩, ⟨xbK⟩, ⟨xbK⟩, ⟨xbl⟩⟩
 }
 {
 rw [if_neg c166] at H
 clear c166
 exact absurd H (by simp)
 }
 }
 }
 }
 }
 }
 }
 }
 }
 have BB := xdf c126
 clear c126
 simp only [Option.some.injEq, Prod.mk.injEq] at H
 obtain ⟨rfl, rfl, rfl, rfl, rfl, rfl, rfl, rfl, rfl⟩ := H
 obtain ⟨Ao170, co170, eo170⟩ := Kd.R_slice Aq.out
 subst eo170
 have Cq := Al.out
 have Cr := Ak.out
 have Do := xz8 Aj.out
 have Dp := xz8 AM.out
 go_wp2
 refine bodyPost_ret (aH rfl _ _ AK 104 #[.int .i64 Ab, .int .i64 Ac, .int .i64 Ad, .int .i64 Ae, .int .i64 Af, .int .i64 Ag, .int .i64 Ah, .int .i64 Ai] (0, 0) _ rfl xbk Tryz.underlying104 rfl (by kernel_rfl)) rfl ?_
 exact ⟨by first | exact xrd | (simp only [← AX, ← A4, ← A5]; exact xrd) | exact xre, xbl⟩
 )
 )
 )
 )
 )
 )
 )
 )
 )
 )
mutual
def bE : Nat → ByteArray → Bool → Option (Bool)
  | 0, _, _ => none
  | k + 1, x0, x17 => if x17 = true then (some false) else (cC k x0 1)
def dl : Nat → ByteArray → Int → Option (Bool)
  | 0, _, _ => none
  | k + 1, x0, x3 => if x3 = 1 then (bZ k x0 x3 true) else (if x3 ≥ (wrap64 ((x0.size : Int) - 1)) then (bZ k x0 x3 true) else (if 0 ≤ x3 then (if x3 < (x0.size : Int) then (bZ k x0 x3 ((bt x0 x3) != 46)) else (none)) else (none)))
def bZ : Nat → ByteArray → Int → Bool → Option (Bool)
  | 0, _, _, _ => none
  | k + 1, x0, x3, x45 => if x45 = true then (some false) else (b4 k x0 (wrap64 (x3 + 1)))
def b4 : Nat → ByteArray → Int → Option (Bool)
  | 0, _, _ => none
  | k + 1, x0, x4 => if x4 < (x0.size : Int) then (if 0 ≤ x4 then ((bH k (bt x0 x4)).bind fun t631 => (if (Go.bits .and .i64 t631 15) = 0 then (if (bt x0 x4) = 58 then (b4 k x0 (wrap64 (x4 + 1))) else (some false)) else (b4 k x0 (wrap64 (x4 + 1))))) else (none)) else (some true)
def cC : Nat → ByteArray → Int → Option (Bool)
  | 0, _, _ => none
  | k + 1, x0, x3 => if x3 < (x0.size : Int) then (if 0 ≤ x3 then ((bI k (bt x0 x3)).bind fun t630 => (if t630 ≥ 0 then (cC k x0 (wrap64 (x3 + 1))) else (dl k x0 x3))) else (none)) else (dl k x0 x3)
end
def fE (k : Nat) (a0 : ByteArray) : Option (Bool) := if (a0.size : Int) < 4 then (bE k a0 true) else (if 0 < (a0.size : Int) then (if (bt a0 0) = 118 then (bE k a0 false) else (bE k a0 ((bt a0 0) != 86))) else (none))
theorem js (k : Nat) (a0 : ByteArray) (r : Bool) (w : World) (h : fE k a0 = some r) :
    Calls Tryz.prog 84 #[.string a0] w fun e w' => e = .returned (.bool r) ∧ Drawn0 w w' := by
 have H := h
 clear h
 unfold fE at H
 have Ar := Zz.mk H
 clear H
 go_enter Tryz.func84, Tryz.ntmps84
 go_upto_region 1 with (fail)
 go_cut [17] (fun v17 wc => ∃ kq Ag, v17 = .bool Ag ∧ Zz (bE kq a0 Ag = some r) ∧ Zz (kq ≤ k) ∧ Drawn0 w wc)
 case first => (
 have H := Ar.out
 clear Ar
 refine xid H ?_ ?_ <;> clear H <;> intro c3 H
 {
 have Ah := xdt c3
 have As : decide (a0.size < 4) = true := decide_eq_true (by omega)
 clear c3
 (first | rw [Ah] | (simp only [ag, ak]; rw [Ah]) | skip)
 replace H := xa H
 go_wp2
 go_meet
 case rel => exact ⟨_, (true), xrr, H, ⟨xom⟩, xdr⟩
 }
 have Ah := xdf c3
 have As : decide (a0.size < 4) = false := decide_eq_false (by omega)
 clear c3
 (first | rw [Ah] | (simp only [ag, ak]; rw [Ah]) | skip)
 refine xin H ?_; clear H; intro c4 H
 have AA := xdt c4
 have AB : decide (0 < a0.size) = true := decide_eq_true (by omega)
 clear c4
 refine xid H ?_ ?_ <;> clear H <;> intro c6 H
 {
 obtain ⟨At, Au⟩ := xqe c6
 clear c6
 replace H := xa H
 obtain ⟨q5, AC, hx5⟩ := xi0 a0 xod
 go_wp2
 go_meet
 case rel => exact ⟨_, (false), xrr, H, ⟨xom⟩, xdr⟩
 }
 obtain ⟨At, Au⟩ := xqn c6
 replace H := xa H
 obtain ⟨q5, AC, hx5⟩ := xi0 a0 xod
 obtain ⟨q7, AF, hx7⟩ := xi0 a0 xod
 go_wp2
 go_meet
 case rel => exact ⟨_, (((bt a0 0) != 86)), xrr, H, ⟨xom⟩, xdr⟩
 )
 case rest => (
 clear Ar
 obtain ⟨kq, Ag, rfl, HA, HJ1, ⟨mc1, rfl⟩⟩ := hcut
 cases kq with
 | zero => exact absurd HA.out (by simp [bE])
 | succ kj1 => (
 have H := HA.out
 clear HA
 simp only [bE] at H
 refine xib H ?_ ?_ <;> clear H <;> rintro rfl H
 {
 obtain rfl := Option.some.inj H
 go_wp2
 go_ret
 exact ⟨xrr, xdr⟩
 }
 have Av := Zz.mk H
 clear H
 go_upto_block 0 with (fail)
 go_cut [3] (fun v3 wc => ∃ kq Ae, v3 = .int .i64 Ae ∧ Zz (dl kq a0 Ae = some r) ∧ Zz (kq ≤ kj1) ∧ Drawn0 w wc)
 case first => (
 have H := Av.out
 clear Av
 have H' := Zz.mk H
 clear H
 go_wp2
 go_loopg [3] kj1 (fun kq v3 w' => ∃ Ab, v3 = .int .i64 Ab ∧ Zz (cC kq a0 Ab = some r) ∧ Zz (kq ≤ kj1) ∧ Drawn0 w w')
 case atStart => exact ⟨(1), xrr, H', ⟨Nat.le_refl _⟩, xdr⟩
 case round => (
 clear H'
 obtain ⟨Ab, rfl, HA, HK2, ⟨m2, rfl⟩⟩ := hrel
 cases gk with
 | zero => exact absurd HA.out (by simp [cC])
 | succ k2 => (
 have H := HA.out
 clear HA
 simp only [cC] at H
 refine xid H ?_ ?_ <;> clear H <;> intro c10 H
 {
 have Ac := xdt c10
 clear c10
 (first | rw [Ac] | (simp only [ag, ak]; rw [Ac]) | skip)
 refine xin H ?_; clear H; intro c11 H
 have Aw := xdt c11
 clear c11
 replace H := xbd H
 obtain ⟨AD, A13, H⟩ := H
 try dsimp only at H
 refine xid H ?_ ?_ <;> clear H <;> intro c14 H
 {
 have Aj := xdt c14
 clear c14
 replace H := xa H
 obtain ⟨p12, q12, hx12⟩ := xiv a0 Ab xod xod
 go_wp2_with (first | (go_at_call 86; (with_reducible refine (au (w := _) (h := A13.out)).mono ?_); rintro e w' ⟨rfl, ⟨nd, rfl⟩⟩))
 go_roundg k2
 case measure => have := HJ1.out; have := HK2.out; omega
 case rel => exact ⟨(wrap64 (Ab + 1)), xrr, H, ⟨by have := HJ1.out; have := HK2.out; omega⟩, xdr⟩
 }
 have Aj := xdf c14
 clear c14
 replace H := xa H
 obtain ⟨p12, q12, hx12⟩ := xiv a0 Ab xod xod
 go_wp2_with (first | (go_at_call 86; (with_reducible refine (au (w := _) (h := A13.out)).mono ?_); rintro e w' ⟨rfl, ⟨nd, rfl⟩⟩))
 go_meet
 case rel => exact ⟨_, (Ab), xrr, H, ⟨xoJ HJ1 HK2⟩, xdr⟩
 }
 have Ac := xdf c10
 clear c10
 (first | rw [Ac] | (simp only [ag, ak]; rw [Ac]) | skip)
 replace H := xa H
 go_wp2
 go_meet
 case rel => exact ⟨_, (Ab), xrr, H, ⟨xoJ HJ1 HK2⟩, xdr⟩
 )
 )
 )
 case rest => (
 clear Av
 obtain ⟨kq, Ae, rfl, HA, HJ8, ⟨mc8, rfl⟩⟩ := hcut
 cases kq with
 | zero => exact absurd HA.out (by simp [dl])
 | succ kj8 => (
 have H := HA.out
 clear HA
 simp only [dl] at H
 have Ai := Zz.mk H
 clear H
 go_upto_region 6 with (fail)
 go_cut [45] (fun v45 wc => ∃ kq Af, v45 = .bool Af ∧ Zz (bZ kq a0 Ae Af = some r) ∧ Zz (kq ≤ kj8) ∧ Drawn0 w wc)
 case first => (
 have H := Ai.out
 clear Ai
 refine xid H ?_ ?_ <;> clear H <;> intro c16 H
 {
 obtain ⟨Ad, Ak⟩ := xqe c16
 clear c16
 (first | rw [Ad] | (simp only [ag, ak]; rw [Ad]) | skip)
 replace H := xa H
 go_wp2
 go_meet
 case rel => exact ⟨_, (true), xrr, H, ⟨xoJ HJ1 HJ8⟩, xdr⟩
 }
 obtain ⟨Ad, Ak⟩ := xqn c16
 (first | rw [Ad] | (simp only [ag, ak]; rw [Ad]) | skip)
 refine xid H ?_ ?_ <;> clear H <;> intro c17 H
 {
 have Al := xdt c17
 clear c17
 replace H := xa H
 go_wp2
 go_meet
 case rel => exact ⟨_, (true), xrr, H, ⟨xoJ HJ1 HJ8⟩, xdr⟩
 }
 have Al := xdf c17
 clear c17
 refine xin H ?_; clear H; intro c18 H
 have Ax := xdt c18
 clear c18
 refine xin H ?_; clear H; intro c19 H
 have Ay := xdt c19
 clear c19
 replace H := xa H
 obtain ⟨p20, q20, hx20⟩ := xiv a0 Ae xod xod
 go_wp2
 go_meet
 case rel => exact ⟨_, (((bt a0 Ae) != 46)), xrr, H, ⟨xoJ HJ1 HJ8⟩, xdr⟩
 )
 case rest => (
 clear Ai
 obtain ⟨kq, Af, rfl, HA, HJ14, ⟨mc14, rfl⟩⟩ := hcut
 cases kq with
 | zero => exact absurd HA.out (by simp [bZ])
 | succ kj14 => (
 have H := HA.out
 clear HA
 simp only [bZ] at H
 refine xib H ?_ ?_ <;> clear H <;> rintro rfl H
 {
 obtain rfl := Option.some.inj H
 go_wp2
 go_ret
 exact ⟨xrr, xdr⟩
 }
 have H' := Zz.mk H
 clear H
 go_wp2
 go_loopg [4] kj14 (fun kq v4 w' => ∃ Aa, v4 = .int .i64 Aa ∧ Zz (b4 kq a0 Aa = some r) ∧ Zz (kq ≤ kj14) ∧ Drawn0 w w')
 case atStart => exact ⟨(wrap64 (Ae + 1)), xrr, H', ⟨Nat.le_refl _⟩, xdr⟩
 case round => (
 clear H'
 obtain ⟨Aa, rfl, HA, HK4, ⟨m4, rfl⟩⟩ := hrel
 cases gk with
 | zero => exact absurd HA.out (by simp [b4])
 | succ k4 => (
 have H := HA.out
 clear HA
 simp only [b4] at H
 refine xid H ?_ ?_ <;> clear H <;> intro c22 H
 {
 have Am := xdt c22
 clear c22
 refine xin H ?_; clear H; intro c23 H
 have Az := xdt c23
 clear c23
 replace H := xbd H
 obtain ⟨AE, A25, H⟩ := H
 try dsimp only at H
 refine xid H ?_ ?_ <;> clear H <;> intro c26 H
 {
 obtain ⟨An, Ao⟩ := xqe c26
 clear c26
 refine xid H ?_ ?_ <;> clear H <;> intro c28 H
 {
 obtain ⟨Ap, Aq⟩ := xqe c28
 clear c28
 replace H := xa H
 obtain ⟨p24, q24, hx24⟩ := xiv a0 Aa xod xod
 go_wp2_with (first | ((with_reducible refine xgc (f := 51) rfl ?_); refine xca 57 Tryz.func51 (aV (w := _) (h := A25.out)) ?_; rintro w' ⟨nd, rfl⟩; obtain ⟨p27, q27, hx27⟩ := xiv a0 Aa xod xod))
 go_roundg k4
 case measure => have := HJ1.out; have := HJ8.out; have := HJ14.out; have := HK4.out; omega
 case rel => exact ⟨(wrap64 (Aa + 1)), xrr, H, ⟨by have := HJ1.out; have := HJ8.out; have := HJ14.out; have := HK4.out; omega⟩, xdr⟩
 }
 obtain ⟨Ap, Aq⟩ := xqn c28
 obtain rfl := Option.some.inj H
 obtain ⟨p24, q24, hx24⟩ := xiv a0 Aa xod xod
 go_wp2_with (first | ((with_reducible refine xgc (f := 51) rfl ?_); refine xca 57 Tryz.func51 (aV (w := _) (h := A25.out)) ?_; rintro w' ⟨nd, rfl⟩; obtain ⟨p27, q27, hx27⟩ := xiv a0 Aa xod xod))
 go_ret
 exact ⟨xrr, xdr⟩
 }
 obtain ⟨An, Ao⟩ := xqn c26
 replace H := xa H
 obtain ⟨p24, q24, hx24⟩ := xiv a0 Aa xod xod
 go_wp2_with (first | ((with_reducible refine xgc (f := 51) rfl ?_); refine xca 57 Tryz.func51 (aV (w := _) (h := A25.out)) ?_; rintro w' ⟨nd, rfl⟩))
 go_roundg k4
 case measure => have := HJ1.out; have := HJ8.out; have := HJ14.out; have := HK4.out; omega
 case rel => exact ⟨(wrap64 (Aa + 1)), xrr, H, ⟨by have := HJ1.out; have := HJ8.out; have := HJ14.out; have := HK4.out; omega⟩, xdr⟩
 }
 have Am := xdf c22
 clear c22
 obtain rfl := Option.some.inj H
 go_wp2
 go_ret
 exact ⟨xrr, xdr⟩
 )
 )
 )
 )
 )
 )
 )
 )
def cw : Nat → Bool → ByteArray → Int → Bool → Option (Int)
  | 0, _, _, _, _ => none
  | k + 1, x0, x1, x5, Ae => if Ae = true then (if 1 ≤ (wrap64 (x5 - 1)) then (if (wrap64 (x5 - 1)) ≤ (x1.size : Int) then ((iQ k (x1.extract 1 ((wrap64 (x5 - 1)) : Int).toNat)).bind fun Aa => (if Aa.2.2.2.2.2.2.2.2 = true then (some 3) else ((fE k (x1.extract 1 ((wrap64 (x5 - 1)) : Int).toNat)).bind fun Ac => (if Ac = true then (some 3) else (some 0))))) else (none)) else (none)) else ((fX k x1).bind fun Ab => (if Ab.2.2.2.2 = true then (some 1) else ((co k 2 x0 x1).bind fun Ad => (if Ad = x5 then (some 2) else (some 0)))))
def fc (k : Nat) (a0 : Bool) (a1 : ByteArray) : Option (Int) := if (a1.size : Int) ≥ 2 then (if 0 < (a1.size : Int) then (if (bt a1 0) = 91 then (if 0 ≤ (wrap64 ((a1.size : Int) - 1)) then (if (wrap64 ((a1.size : Int) - 1)) < (a1.size : Int) then (cw k a0 a1 (a1.size : Int) ((bt a1 (wrap64 ((a1.size : Int) - 1))) == 93)) else (none)) else (none)) else (cw k a0 a1 (a1.size : Int) false)) else (none)) else (cw k a0 a1 (a1.size : Int) false)
theorem jQ (k : Nat) (a0 : Bool) (a1 : ByteArray) (r : Int) (w : World) (h : fc k a0 a1 = some r) :
    Calls Tryz.prog 66 #[.bool a0, .string a1] w fun e w' => e = .returned (.int .i64 r) ∧ Below w.heap.size w w' := by
 have hu104 := Tryz.underlying104
 have hu107 := Tryz.underlying107
 have HB := Zz.mk (Below.refl w.heap.size w)
 have H := h
 clear h
 unfold fc at H
 have As := Zz.mk H
 clear H
 go_enter Tryz.func66, Tryz.ntmps66
 go_upto_region 2 with (fail)
 go_cut [25] (fun v25 wc => ∃ kq Af, v25 = .bool Af ∧ Zz (cw kq a0 a1 (a1.size : Int) Af = some r) ∧ Zz (kq ≤ k) ∧ Zz (Below w.heap.size w wc))
 case first => (
 have H := As.out
 clear As
 refine xid H ?_ ?_ <;> clear H <;> intro c4 H
 {
 have Ag := xdt c4
 have At : decide (2 ≤ a1.size) = true := decide_eq_true (by omega)
 clear c4
 (first | rw [Ag] | (simp only [ag, ak]; rw [Ag]) | skip)
 refine xin H ?_; clear H; intro c5 H
 have AG := xdt c5
 have AH : decide (0 < a1.size) = true := decide_eq_true (by omega)
 clear c5
 refine xid H ?_ ?_ <;> clear H <;> intro c7 H
 {
 obtain ⟨Au, Av⟩ := xqe c7
 clear c7
 obtain ⟨Aw, Ah⟩ : ∃ j_ : Int, (wrap64 ((a1.size : Int) - 1)) = j_ := ⟨_, rfl⟩
 first | rw [Ah] at H | simp only [Ah] at H | skip
 have Ay : (IntKind.i64.wrap ((a1.size : Int) - 1)) = Aw := (ag _).trans Ah
 refine xin H ?_; clear H; intro c9 H
 have AI := xdt c9
 clear c9
 refine xin H ?_; clear H; intro c10 H
 have Az := xdt c10
 clear c10
 replace H := xa H
 obtain ⟨q6, AJ, hx6⟩ := xi0 a1 xod
 obtain ⟨p11, q11, hx11⟩ := xiv a1 (Aw) xod xod
 go_wp2
 go_meet
 case rel => exact ⟨_, (((bt a1 (Aw)) == 93)), (by first | exact xrs | (simp only [← Ah] <;> (first | rfl | simp)) | exact xrr), H, ⟨xom⟩, ⟨xbl⟩⟩
 }
 obtain ⟨Au, Av⟩ := xqn c7
 replace H := xa H
 obtain ⟨q6, AJ, hx6⟩ := xi0 a1 xod
 go_wp2
 go_meet
 case rel => exact ⟨_, (false), xrr, H, ⟨xom⟩, ⟨xbl⟩⟩
 }
 have Ag := xdf c4
 have At : decide (2 ≤ a1.size) = false := decide_eq_false (by omega)
 clear c4
 (first | rw [Ag] | (simp only [ag, ak]; rw [Ag]) | skip)
 replace H := xa H
 go_wp2
 go_meet
 case rel => exact ⟨_, (false), xrr, H, ⟨xom⟩, ⟨xbl⟩⟩
 )
 case rest => (
 clear As
 obtain ⟨kq, Af, rfl, HA, HJ2, HB⟩ := hcut
 cases kq with
 | zero => exact absurd HA.out (by simp [cw])
 | succ kj2 => (
 have H := HA.out
 clear HA
 simp only [cw] at H
 refine xib H ?_ ?_ <;> clear H <;> rintro rfl H
 {
 obtain ⟨Ai, Ac⟩ : ∃ j_ : Int, (wrap64 ((a1.size : Int) - 1)) = j_ := ⟨_, rfl⟩
 first | rw [Ac] at H | simp only [Ac] at H | skip
 have Ax : (IntKind.i64.wrap ((a1.size : Int) - 1)) = Ai := (ag _).trans Ac
 refine xin H ?_; clear H; intro c14 H
 obtain ⟨AA, AB⟩ := xcp c14
 clear c14
 refine xin H ?_; clear H; intro c15 H
 obtain ⟨AC, AD⟩ := xcp c15
 clear c15
 obtain ⟨AK, Aa⟩ : ∃ j_ : ByteArray, (a1.extract 1 ((Ai) : Int).toNat) = j_ := ⟨_, rfl⟩
 first | rw [Aa] at H | simp only [Aa] at H | skip
 replace H := xbd H
 obtain ⟨⟨AL, AM, AN, AO, AP, AQ, AR, AS, AT⟩, A17, H⟩ := H
 try dsimp only at H
 refine xib H ?_ ?_ <;> clear H <;> rintro rfl H
 {
 obtain rfl := Option.some.inj H
 go_wp2_with (first | ((with_reducible refine xgc (f := 83) rfl ?_); refine xca 31 Tryz.func83 (iW (w := _) (h := A17.out)) ?_ (hargs := by (try simp only [xm1, xm2, xm3]); first | done | (simp only [Aa]; rfl) | rfl); rintro w19 hb; replace HB := xst hb; (try clear hb)) | ((with_reducible refine aj (N := 6) rfl ?_); refine xew 6 ?_; intro Aj w20 Ad Ak hb hg; replace HB := xst hb; clear hb hg; have AU := xz8 Ad.out))
 go_ret
 exact ⟨by first | exact xrd | (simp only [← Ac, ← Aa]; exact xrd) | exact xre, xbl⟩
 }
 have AE := eq_true (xod : 1 ≤ (Ai))
 have AF := eq_true (xod : (Ai) ≤ (a1.size : Int))
 first | rw [Aa] at H | simp only [Aa] at H | skip
 (try rw [Aa] at A17)
 replace H := xbd H
 obtain ⟨AV, A24, H⟩ := H
 try dsimp only at H
 refine xib H ?_ ?_ <;> clear H <;> rintro rfl H
 {
 obtain rfl := Option.some.inj H
 go_wp2_with (first | ((with_reducible refine xgc (f := 83) rfl ?_); refine xca 31 Tryz.func83 (iW (w := _) (h := A17.out)) ?_ (hargs := by (try simp only [xm1, xm2, xm3]); first | done | (simp only [Aa]; rfl) | rfl); rintro w26 hb; replace HB := xst hb; (try clear hb)) | ((with_reducible refine aj (N := 6) rfl ?_); refine xew 6 ?_; intro Aj w27 Ad Ak hb hg; replace HB := xst hb; clear hb hg; have AW := xz8 Ad.out) | (go_at_call 84; (with_reducible refine (js (w := _) (h := A24.out)).mono ?_); rintro e w' ⟨rfl, ⟨nd, rfl⟩⟩))
 go_ret
 exact ⟨by first | exact xrd | (simp only [← Ac, ← Aa, ← Aa]; exact xrd) | exact xre, xbl⟩
 }
 obtain rfl := Option.some.inj H
 go_wp2_with (first | ((with_reducible refine xgc (f := 83) rfl ?_); refine xca 31 Tryz.func83 (iW (w := _) (h := A17.out)) ?_ (hargs := by (try simp only [xm1, xm2, xm3]); first | done | (simp only [Aa]; rfl) | rfl); rintro w29 hb; replace HB := xst hb; (try clear hb)) | ((with_reducible refine aj (N := 6) rfl ?_); refine xew 6 ?_; intro Aj w30 Ad Ak hb hg; replace HB := xst hb; clear hb hg; have AX := xz8 Ad.out) | (go_at_call 84; (with_reducible refine (js (w := _) (h := A24.out)).mono ?_); rintro e w' ⟨rfl, ⟨nd, rfl⟩⟩))
 go_ret
 exact ⟨by first | exact xrd | (simp only [← Ac, ← Aa, ← Aa]; exact xrd) | exact xre, xbl⟩
 }
 replace H := xbd H
 obtain ⟨⟨Am, An, Ao, Ap, AY⟩, A32, H⟩ := H
 try dsimp only at H
 refine xib H ?_ ?_ <;> clear H <;> rintro rfl H
 {
 obtain rfl := Option.some.inj H
 go_wp2_with (first | ((with_reducible refine xgc (f := 85) rfl ?_); refine xca 44 Tryz.func85 (gO (w := _) (h := A32.out)) ?_; rintro w34 hb; replace HB := xst hb; (try clear hb)) | ((with_reducible refine aj (N := 8) rfl ?_); refine xew 8 ?_; intro Ae w35 Ab Al hb hg; replace HB := xst hb; clear hb hg; have AZ := xz4 Ab.out))
 go_ret
 exact ⟨xre, xbl⟩
 }
 replace H := xbd H
 obtain ⟨A0, A37, H⟩ := H
 try dsimp only at H
 refine xid H ?_ ?_ <;> clear H <;> intro c38 H
 {
 obtain ⟨Aq, Ar⟩ := xqe c38
 clear c38
 obtain rfl := Option.some.inj H
 go_wp2_with (first | ((with_reducible refine xgc (f := 85) rfl ?_); refine xca 44 Tryz.func85 (gO (w := _) (h := A32.out)) ?_; rintro w39 hb; replace HB := xst hb; (try clear hb)) | ((with_reducible refine aj (N := 8) rfl ?_); refine xew 8 ?_; intro Ae w40 Ab Al hb hg; replace HB := xst hb; clear hb hg; have A1 := xz4 Ab.out) | ((with_reducible refine xgc (f := 40) rfl ?_); refine xca 50 Tryz.func40 (bQ (w := _) (h := A37.out)) ?_; rintro w42 hb; replace Ab := xbb (g := Ae) (o := .cells #[.int .i64 Am, .int .i64 An, .int .i64 Ao, .int .i64 Ap] 107 (0, 0)) hb; replace HB := xst hb; (try clear hb)))
 go_ret
 exact ⟨xre, xbl⟩
 }
 obtain ⟨Aq, Ar⟩ := xqn c38
 obtain rfl := Option.some.inj H
 go_wp2_with (first | ((with_reducible refine xgc (f := 85) rfl ?_); refine xca 44 Tryz.func85 (gO (w := _) (h := A32.out)) ?_; rintro w43 hb; replace HB := xst hb; (try clear hb)) | ((with_reducible refine aj (N := 8) rfl ?_); refine xew 8 ?_; intro Ae w44 Ab Al hb hg; replace HB := xst hb; clear hb hg; have A2 := xz4 Ab.out) | ((with_reducible refine xgc (f := 40) rfl ?_); refine xca 50 Tryz.func40 (bQ (w := _) (h := A37.out)) ?_; rintro w46 hb; replace Ab := xbb (g := Ae) (o := .cells #[.int .i64 Am, .int .i64 An, .int .i64 Ao, .int .i64 Ap] 107 (0, 0)) hb; replace HB := xst hb; (try clear hb)))
 go_ret
 exact ⟨xre, xbl⟩
 )
 )
def cm : Nat → Bool → Bool → Bool → ByteArray → ByteArray → Bool → ByteArray → Option (Bool)
  | 0, _, _, _, _, _, _, _ => none
  | k + 1, x0, Ai, Ad, Ae, Aa, Ac, Ab => if Ai = true then (some false) else (if Ac = true then ((gb k Ab 2).bind fun Af => (if Af = (Ab.size : Int) then ((fc k x0 Aa).bind fun Ag => (some (Ag != 0))) else (some false))) else ((fc k x0 Aa).bind fun Ah => (some (Ah != 0))))
def eK (k : Nat) (a0 : Bool) (Ab : Bool) (Aa : ByteArray) (Ac : ByteArray) (Ad : Bool) (Ae : ByteArray) : Option (Bool) := if Ab = true then ((co k 1 a0 Aa).bind fun Af => (cm k a0 (Af != (Aa.size : Int)) Ab Aa Ac Ad Ae)) else (cm k a0 false Ab Aa Ac Ad Ae)
theorem fN (k : Nat) (a0 : Bool) (Af : Bool) (Ab : ByteArray) (Ac : ByteArray) (Ag : Bool) (Ad : ByteArray) (r : Bool) (w : World) (h : eK k a0 Af Ab Ac Ag Ad = some r) :
    Calls Tryz.prog 52 #[.bool a0, .agg #[.bool Af, .string Ab, .string Ac, .bool Ag, .string Ad]] w fun e w' => e = .returned (.bool r) ∧ Below w.heap.size w w' := by
 have hu67 := Tryz.underlying67
 have HB := Zz.mk (Below.refl w.heap.size w)
 have H := h
 clear h
 unfold eK at H
 have Ak := Zz.mk H
 clear H
 go_enter Tryz.func52, Tryz.ntmps52
 go_upto_region 1 with (first | ((with_reducible refine aj (N := 3) rfl ?_); (try (refine cb (by rfl) ?_; dsimp only)); refine xew 3 ?_; intro Ae w4 Aa Am hb hg; replace HB := xst hb; clear hb hg))
 (try simp only [Act.put, xl1, xl2, xl3])
 go_cut [16] (fun v16 wc => ∃ kq Ah, v16 = .bool Ah ∧ Zz (cm kq a0 Ah Af Ab Ac Ag Ad = some r) ∧ Zz (kq ≤ k) ∧ Zz (wc.heap[Ae]? = some (.cells #[.bool Af, .string Ab, .string Ac, .bool Ag, .string Ad] 67 (0, 0))) ∧ Zz (Below w.heap.size w wc))
 case first => (
 have H := Ak.out
 clear Ak
 refine xib H ?_ ?_ <;> clear H <;> rintro rfl H
 {
 replace H := xbd H
 obtain ⟨Al, A6, H⟩ := H
 try dsimp only at H
 replace H := xa H
 try go_wp2
 replace Aa := Zz.mk (bc Aa.out)
 replace HB := Zz.mk (aA HB.out)
 refine xsr 12 [] (xs5 Aa.out) (fun hHeld => ?_)
 generalize w4.drew = w7 at Aa HB hHeld ⊢
 refine xpu 0 5 ?_
 refine xtk 1 6 ?_
 refine xpu 2 7 ?_
 refine xpu 3 8 ?_
 refine xpu 4 9 ?_
 refine xpu 7 12 ?_
 refine xtk 5 10 ?_
 refine xtk 8 13 ?_
 refine xpu 9 14 ?_
 refine xon 6 11 Tryz.func40 (bQ (w := _) (h := A6.out)) ?_
 rintro w8 hb
 replace Aa := xbb (g := Ae) (o := .cells #[.bool true, .string Ab, .string Ac, .bool Ag, .string Ad] 67 (0, 0)) hb
 replace HB := xst hb
 (try clear hb)
 refine ⟨xs5 Aa.out, fun hHeld => ?_⟩
 refine xpu 10 15 ?_
 refine xpu 11 16 ?_
 refine xdn ?_
 try go_wp2
 go_meet
 case rel => exact ⟨_, ((Al != (Ab.size : Int))), xrr, H, ⟨xom⟩, ⟨xbk⟩, ⟨xbl⟩⟩
 }
 replace H := xa H
 try go_wp2
 replace Aa := Zz.mk (bc Aa.out)
 replace HB := Zz.mk (aA HB.out)
 refine xsr 12 [] (xs5 Aa.out) (fun hHeld => ?_)
 generalize w4.drew = w9 at Aa HB hHeld ⊢
 refine xpu 0 5 ?_
 refine xtk 1 6 ?_
 refine xpu 2 7 ?_
 refine xpo 3 8 ?_
 refine xpo 4 9 ?_
 refine xpo 5 10 ?_
 refine xpo 6 11 ?_
 refine xpo 7 12 ?_
 refine xpo 8 13 ?_
 refine xpo 9 14 ?_
 refine xpo 10 15 ?_
 refine xpu 11 16 ?_
 refine xdn ?_
 try go_wp2
 go_meet
 case rel => exact ⟨_, (false), xrr, H, ⟨xom⟩, ⟨xbk⟩, ⟨xbl⟩⟩
 )
 case rest => (
 clear Ak
 obtain ⟨kq, Ah, rfl, HA, HJ2, Aa, HB⟩ := hcut
 cases kq with
 | zero => exact absurd HA.out (by simp [cm])
 | succ kj2 => (
 have H := HA.out
 clear HA
 simp only [cm] at H
 refine xib H ?_ ?_ <;> clear H <;> rintro rfl H
 {
 obtain rfl := Option.some.inj H
 go_wp2
 go_ret
 exact ⟨xre, xbl⟩
 }
 refine xib H ?_ ?_ <;> clear H <;> rintro rfl H
 {
 replace H := xbd H
 obtain ⟨An, A12, H⟩ := H
 try dsimp only at H
 refine xid H ?_ ?_ <;> clear H <;> intro c13 H
 {
 obtain ⟨Ai, Aj⟩ := xqe c13
 clear c13
 replace H := xbd H
 obtain ⟨Ao, A14, H⟩ := H
 try dsimp only at H
 obtain rfl := Option.some.inj H
 try go_wp2
 replace Aa := Zz.mk (bc Aa.out)
 replace HB := Zz.mk (aA HB.out)
 refine xsr 11 [] (xs5 Aa.out) (fun hHeld => ?_)
 generalize wc.drew = w15 at Aa HB hHeld ⊢
 refine xpu 0 17 ?_
 refine xtk 1 18 ?_
 refine xpu 2 19 ?_
 refine xpu 3 20 ?_
 refine xpu 6 23 ?_
 refine xtk 4 21 ?_
 refine xtk 7 24 ?_
 refine xpu 8 25 ?_
 refine xon 5 22 Tryz.func65 (jO (w := _) (h := A12.out)) ?_
 rintro w' ⟨nd, rfl⟩
 refine ⟨xs5 Aa.out, fun hHeld => ?_⟩
 refine xpu 9 26 ?_
 refine xpu 10 27 ?_
 refine xdn ?_
 have Ap := xz5 Aa.out
 try go_wp2_with (first | ((with_reducible refine xgc (f := 66) rfl ?_); refine xca 31 Tryz.func66 (jQ (w := _) (h := A14.out)) ?_; rintro w17 hb; replace Aa := xbb (g := Ae) (o := .cells #[.bool Af, .string Ab, .string Ac, .bool true, .string Ad] 67 (0, 0)) hb; replace HB := xst hb; (try clear hb)))
 go_ret
 exact ⟨xre, xbl⟩
 }
 obtain ⟨Ai, Aj⟩ := xqn c13
 obtain rfl := Option.some.inj H
 try go_wp2
 replace Aa := Zz.mk (bc Aa.out)
 replace HB := Zz.mk (aA HB.out)
 refine xsr 11 [] (xs5 Aa.out) (fun hHeld => ?_)
 generalize wc.drew = w18 at Aa HB hHeld ⊢
 refine xpu 0 17 ?_
 refine xtk 1 18 ?_
 refine xpu 2 19 ?_
 refine xpu 3 20 ?_
 refine xpu 6 23 ?_
 refine xtk 4 21 ?_
 refine xtk 7 24 ?_
 refine xpu 8 25 ?_
 refine xon 5 22 Tryz.func65 (jO (w := _) (h := A12.out)) ?_
 rintro w' ⟨nd, rfl⟩
 refine ⟨xs5 Aa.out, fun hHeld => ?_⟩
 refine xpu 9 26 ?_
 refine xpu 10 27 ?_
 refine xdn ?_
 try go_wp2
 go_ret
 exact ⟨xre, xbl⟩
 }
 replace H := xbd H
 obtain ⟨Aq, A19, H⟩ := H
 try dsimp only at H
 obtain rfl := Option.some.inj H
 try go_wp2
 replace Aa := Zz.mk (bc Aa.out)
 replace HB := Zz.mk (aA HB.out)
 refine xsr 11 [] (xs5 Aa.out) (fun hHeld => ?_)
 generalize wc.drew = w20 at Aa HB hHeld ⊢
 refine xpu 0 17 ?_
 refine xtk 1 18 ?_
 refine xpu 2 19 ?_
 refine xpo 3 20 ?_
 refine xpo 4 21 ?_
 refine xpo 5 22 ?_
 refine xpo 6 23 ?_
 refine xpo 7 24 ?_
 refine xpo 8 25 ?_
 refine xpo 9 26 ?_
 refine xpu 10 27 ?_
 refine xdn ?_
 have Ar := xz5 Aa.out
 try go_wp2_with (first | ((with_reducible refine xgc (f := 66) rfl ?_); refine xca 31 Tryz.func66 (jQ (w := _) (h := A19.out)) ?_; rintro w22 hb; replace Aa := xbb (g := Ae) (o := .cells #[.bool Af, .string Ab, .string Ac, .bool false, .string Ad] 67 (0, 0)) hb; replace HB := xst hb; (try clear hb)))
 go_ret
 exact ⟨xre, xbl⟩
 )
 )
end Go.Proofs.YtpmflpeckoeooaaGreatDoor.X
