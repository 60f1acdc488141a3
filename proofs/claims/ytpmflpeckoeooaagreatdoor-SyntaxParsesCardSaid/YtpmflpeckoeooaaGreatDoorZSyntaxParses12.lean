/- Texts that the law's proof needs, joined by a program of this session. -/
import Derived.Test.YtpmflpeckoeooaaGreatDoorZSyntaxParses0
import Derived.Test.YtpmflpeckoeooaaGreatDoorZSyntaxParses1
import Derived.Test.YtpmflpeckoeooaaGreatDoorZSyntaxParses2
import Derived.Test.YtpmflpeckoeooaaGreatDoorZSyntaxParses3
import Derived.Test.YtpmflpeckoeooaaGreatDoorZSyntaxParses5
import Derived.Test.YtpmflpeckoeooaaGreatDoorZSyntaxParses6
import Derived.Test.YtpmflpeckoeooaaGreatDoorZSyntaxParses7
import Derived.Test.YtpmflpeckoeooaaGreatDoorZSyntaxParses8
import Derived.Test.YtpmflpeckoeooaaGreatDoorZSyntaxParses10
import Derived.Test.YtpmflpeckoeooaaGreatDoorZSyntaxParses11
import Derived.Lib.Bytealg
import Derived.Laws.Strings
set_option maxHeartbeats 8000000
set_option maxRecDepth 100000
set_option linter.unusedSimpArgs false
set_option linter.unusedVariables false
namespace Go.Proofs.YtpmflpeckoeooaaGreatDoor.X
open Go.RowKit Go.Proofs.YtpmflpeckoeooaaGreatDoorW.PrintWords Go.Proofs.YtpmflpeckoeooaaGreatDoorW.PrintLast Go.Proofs.YtpmflpeckoeooaaGreatDoorW.PrintMore
attribute [local go_sem] ez ea gJ iY dq ir cv ia ic iU iV gz gA ib ie
attribute [local go_sem high] yW
def e7 (k : Nat) (a0 : Int) (a1 : ByteArray) : Option (Bool) := if (a1.size : Int) > 200 then ((bG k).bind fun Af => (some Af)) else ((eS k a0 a1).bind fun Aa => ((fQ k a0 a1).bind fun Ab => (if (Aa.1.toList == Ab.1.toList && (Aa.2.1 == Ab.2.1 && (Aa.2.2.1.toList == Ab.2.2.1.toList && (Aa.2.2.2.1.toList == Ab.2.2.2.1.toList && (Aa.2.2.2.2.1 == Ab.2.2.2.2.1 && (Aa.2.2.2.2.2.1.toList == Ab.2.2.2.2.2.1.toList && (Aa.2.2.2.2.2.2.1 == Ab.2.2.2.2.2.2.1 && (Aa.2.2.2.2.2.2.2.1.toList == Ab.2.2.2.2.2.2.2.1.toList)))))))) = true then (if Aa.2.2.2.2.2.2.2.2 = Ab.2.2.2.2.2.2.2.2 then ((dn k a0 a1).bind fun Ag => (if (Ag == (Ab.2.2.2.2.2.2.2.2 == 0)) = true then ((eR a0).bind fun Ae => (if a0 = 4 then (if (Ae == true) = true then (if Ab.2.2.2.2.2.2.2.2 = 0 then ((ip k Aa.1 Aa.2.1 Aa.2.2.1 Aa.2.2.2.1 Aa.2.2.2.2.1 Aa.2.2.2.2.2.1 Aa.2.2.2.2.2.2.1 Aa.2.2.2.2.2.2.2.1).bind fun Ah => (if Ah.toList = a1.toList then ((iB k a1).bind fun Ac => (if (Ac.1.toList == Aa.1.toList && (Ac.2.1 == Aa.2.1 && (Ac.2.2.1.toList == Aa.2.2.1.toList && (Ac.2.2.2.1.toList == Aa.2.2.2.1.toList && (Ac.2.2.2.2.1 == Aa.2.2.2.2.1 && (Ac.2.2.2.2.2.1.toList == Aa.2.2.2.2.2.1.toList && (Ac.2.2.2.2.2.2.1 == Aa.2.2.2.2.2.2.1 && (Ac.2.2.2.2.2.2.2.toList == Aa.2.2.2.2.2.2.2.1.toList)))))))) = true then ((bG k).bind fun Ai => (some Ai)) else (none))) else (none))) else ((bG k).bind fun Aj => (some Aj))) else (none)) else (if (Ae == (a0 == 5)) = true then (if Ab.2.2.2.2.2.2.2.2 = 0 then ((ip k Aa.1 Aa.2.1 Aa.2.2.1 Aa.2.2.2.1 Aa.2.2.2.2.1 Aa.2.2.2.2.2.1 Aa.2.2.2.2.2.2.1 Aa.2.2.2.2.2.2.2.1).bind fun Ak => (if Ak.toList = a1.toList then ((iB k a1).bind fun Ad => (if (Ad.1.toList == Aa.1.toList && (Ad.2.1 == Aa.2.1 && (Ad.2.2.1.toList == Aa.2.2.1.toList && (Ad.2.2.2.1.toList == Aa.2.2.2.1.toList && (Ad.2.2.2.2.1 == Aa.2.2.2.2.1 && (Ad.2.2.2.2.2.1.toList == Aa.2.2.2.2.2.1.toList && (Ad.2.2.2.2.2.2.1 == Aa.2.2.2.2.2.2.1 && (Ad.2.2.2.2.2.2.2.toList == Aa.2.2.2.2.2.2.2.1.toList)))))))) = true then ((bG k).bind fun Al => (some Al)) else (none))) else (none))) else ((bG k).bind fun Am => (some Am))) else (none)))) else (none))) else (none)) else (none))))
theorem kw (k : Nat) (a0 : Int) (a1 : ByteArray) (r : Bool) (w : World) (hG : GW w) (h : e7 k a0 a1 = some r) :
    Calls Tryz.prog 5 #[.int .i64 a0, .string a1] w fun e w' => e = .returned (.bool r) ∧ Below w.heap.size w w' := by
 have hu24 := Tryz.underlying24
 have HB := Zz.mk (Below.refl w.heap.size w)
 have H := h
 clear h
 unfold e7 at H
 by_cases c3 : (a1.size : Int) > 200
 {
 rw [if_pos c3] at H
 have Bg := xdt c3
 have Bh : decide (200 < a1.size) = true := decide_eq_true (by omega)
 clear c3
 replace H := xbd H
 obtain ⟨Bi, A4, H⟩ := H
 try dsimp only at H
 obtain rfl := Option.some.inj H
 go_enter Tryz.func5, Tryz.ntmps5
 go_wp2_with (first | ((with_reducible refine xgc (f := 6) rfl ?_); refine xgl 12 Tryz.func6 #[] ?_; (with_reducible refine (es k  Bi _ ?side1 A4.out).mono ?_); (case side1 => first | (with_reducible exact hG) | exact eZ hG xbl); rintro e w5 ⟨rfl, hb⟩; refine ⟨_, rfl, ?_⟩; replace HB := xst hb; (try clear hb)))
 go_ret
 exact ⟨xre, xbl⟩
 }
 {
 rw [if_neg c3] at H
 have Bg := xdf c3
 have Bh : decide (200 < a1.size) = false := decide_eq_false (by omega)
 clear c3
 replace H := xbd H
 obtain ⟨⟨Ae, Af, Ag, Ah, Ai, Aj, Ak, Al, BH⟩, A6, H⟩ := H
 try dsimp only at H
 replace H := xbd H
 obtain ⟨⟨Am, An, Ao, Ap, Aq, Ar, As, At, Az⟩, A7, H⟩ := H
 try dsimp only at H
 refine xid H ?_ ?_ <;> clear H <;> intro c8 H
 {
 have Bj := c8
 clear c8
 refine xid H ?_ ?_ <;> clear H <;> intro c9 H
 {
 obtain ⟨Bk, Bl⟩ := xqe c9
 clear c9
 replace H := xbd H
 obtain ⟨Ax, A10, H⟩ := H
 try dsimp only at H
 refine xid H ?_ ?_ <;> clear H <;> intro c11 H
 {
 have Ay : (Ax == (Az == 0)) = true := c11
 (try (have AV : decide (Ax = (Az == 0)) = true := by simpa using c11))
 (try (have AW : (Ax == (Az == 0)) = true := by simpa using c11))
 clear c11
 replace H := xbd H
 obtain ⟨Aw, A12, H⟩ := H
 try dsimp only at H
 refine xid H ?_ ?_ <;> clear H <;> intro c13 H
 {
 obtain ⟨AX, AY⟩ := xqe c13
 clear c13
 refine xid H ?_ ?_ <;> clear H <;> intro c14 H
 {
 have AZ : (Aw == true) = true := c14
 (try (have A0 : decide (Aw = true) = true := by simpa using c14))
 (try (have A1 : (Aw == true) = true := by simpa using c14))
 clear c14
 refine xid H ?_ ?_ <;> clear H <;> intro c15 H
 {
 obtain ⟨AA, A2⟩ := xqe c15
 have AB : Ax = true := by simpa [AA] using Ay
 clear c15
 replace H := xbd H
 obtain ⟨BI, A16, H⟩ := H
 try dsimp only at H
 refine xid H ?_ ?_ <;> clear H <;> intro c17 H
 {
 obtain ⟨A3, A5⟩ := xqe c17
 clear c17
 replace H := xbd H
 obtain ⟨⟨AF, AG, AH, AI, AJ, AK, AL, AM⟩, A18, H⟩ := H
 try dsimp only at H
 refine xid H ?_ ?_ <;> clear H <;> intro c19 H
 {
 have A8 := c19
 clear c19
 replace H := xbd H
 obtain ⟨Bm, A20, H⟩ := H
 try dsimp only at H
 obtain rfl := Option.some.inj H
 go_enter Tryz.func5, Tryz.ntmps5
 try go_wp2_with (first | ((with_reducible refine xgc (f := 7) rfl ?_); refine xca 16 Tryz.func7 (gI (w := _) (hG := xG) (h := A6.out)) ?_; rintro w21 hb; replace HB := xst hb; (try clear hb)) | ((with_reducible refine aj (N := 5) rfl ?_); refine xew 5 ?_; intro Ad w22 Aa AC hb hg; replace HB := xst hb; clear hb hg; have BJ := xz8 Aa.out) | ((with_reducible refine xgc (f := 12) rfl ?_); refine xca 22 Tryz.func12 (fO (w := _) (h := A7.out)) ?_; rintro w24 hb; replace Aa := xbb (g := Ad) (o := .cells #[.string Ae, .bool Af, .string Ag, .string Ah, .bool Ai, .string Aj, .bool Ak, .string Al] 24 (0, 0)) hb; replace HB := xst hb; (try clear hb)) | ((with_reducible refine aj (N := 7) rfl ?_); refine xew 7 ?_; intro Ac w25 Ab AD hb hg; have Au := xlt (g := Ad) hg; have Av := xgt (g := Ad) hg; replace Aa := xbb (g := Ad) (o := .cells #[.string Ae, .bool Af, .string Ag, .string Ah, .bool Ai, .string Aj, .bool Ak, .string Al] 24 (0, 0)) hb; replace HB := xst hb; clear hb hg; have Bq := Av.out; have Br := Au.out; have BL := xz8 Ab.out))
 obtain ⟨w28, hW_⟩ : ∃ W_, (((((((w25.setCell ⟨Ac, 0, none⟩ (.string Am)).setCell ⟨Ac, 1, none⟩ (.bool An)).setCell ⟨Ac, 2, none⟩ (.string Ao)).setCell ⟨Ac, 3, none⟩ (.string Ap)).setCell ⟨Ac, 4, none⟩ (.bool Aq)).setCell ⟨Ac, 5, none⟩ (.string Ar)).setCell ⟨Ac, 6, none⟩ (.bool As)).setCell ⟨Ac, 7, none⟩ (.string At) = W_ := ⟨_, rfl⟩
 have n0_ : Zz (w28.heap[Ad]? = some (.cells #[.string Ae, .bool Af, .string Ag, .string Ah, .bool Ai, .string Aj, .bool Ak, .string Al] 24 (0, 0))) := ⟨by rw [← hW_]; exact xbK⟩
 have n1_ : Zz (w28.heap[Ac]? = some (.cells #[.string Am, .bool An, .string Ao, .string Ap, .bool Aq, .string Ar, .bool As, .string At] 24 (0, 0))) := ⟨by rw [← hW_]; exact xbK⟩
 have n2_ : Zz (Below w.heap.size w w28) := ⟨by rw [← hW_]; exact xbl⟩
 (try clear Aa)
 (try clear Ab)
 (try clear HB)
 try simp only [show ∀ (w_ : World) (n_ : Nat) (a_ : Addr) (v_ : Value), (w_.drewN n_).setCell a_ v_ = (w_.setCell a_ v_).drewN n_ from fun _ _ _ _ => rfl]
 rw [hW_]
 clear hW_
 have Aa := n0_
 have Ab := n1_
 have HB := n2_
 clear n0_ n1_ n2_
 replace Aa := Zz.mk (bc Aa.out)
 replace Ab := Zz.mk (bc Ab.out)
 replace HB := Zz.mk (aA HB.out)
 refine io (n := 47) (S := fun w' => xS8 Ad (.string Ae) (.bool Af) (.string Ag) (.string Ah) (.bool Ai) (.string Aj) (.bool Ak) (.string Al) w' ∧ xS8 Ac (.string Am) (.bool An) (.string Ao) (.string Ap) (.bool Aq) (.string Ar) (.bool As) (.string At) w') (ds := []) #[false, false, false, false, false, false, false, false, false, false, false, false, false, false, false, false, false, false, false, false, false, false, false, false, false, false, false, false, false, false, false, false, false, false, false, false, false, false, false, false, false, false, false, false, false, false, false] (by kernel_rfl) rfl rfl ⟨xs8 Aa.out, xs8 Ab.out⟩ (fun hHeld => ?_)
 generalize w28.drew = w29 at Aa Ab HB hHeld ⊢
 refine xtk 0 25 ?_
 refine xtk 1 26 ?_
 refine xpu 2 27 ?_
 refine xpu 3 28 ?_
 refine xpu 4 29 ?_
 refine xpu 5 30 ?_
 refine xpu 6 31 ?_
 refine xpu 7 32 ?_
 refine xpu 8 33 ?_
 refine xpu 9 34 ?_
 refine xpu 10 35 ?_
 refine xpu 12 37 ?_
 refine xpu 13 38 ?_
 refine dm (i := 11) (N := some 36) #[true, true, true, true, true, true, true, true, true, true, true, true, true, true, false, false, false, false, false, false, false, false, false, false, false, false, false, false, false, false, false, false, false, false, false, false, false, false, false, false, false, false, false, false, false, false, false] rfl rfl (ev rfl (by kernel_rfl)) (by decide) (fun K hK => ?_)
 refine gp Tryz.func14 (by kernel_rfl) rfl #[.int .i64 a0, .string a1] (by rfl) rfl rfl (by (try simp only [List.map_toArray, List.map_cons, List.map_nil]); first | done | rfl | (simp only [List.length_drop, List.length_take]; rfl)) ?_
 (with_reducible refine (dh (w := _) (hG := xG) (h := A10.out)).mono ?_)
 rintro e w30 ⟨rfl, hb⟩
 refine ⟨_, rfl, ?_⟩
 have n0_ := xbb (g := Ad) (o := .cells #[.string Ae, .bool Af, .string Ag, .string Ah, .bool Ai, .string Aj, .bool Ak, .string Al] 24 (0, 0)) hb
 have n1_ := xbb (g := Ac) (o := .cells #[.string Am, .bool An, .string Ao, .string Ap, .bool Aq, .string Ar, .bool As, .string At] 24 (0, 0)) hb
 have n2_ := xst hb
 clear Aa
 clear Ab
 clear HB
 have Aa := n0_
 have Ab := n1_
 have HB := n2_
 clear n0_ n1_ n2_
 (try clear hb)
 refine hK.out _ _ ⟨xs8 Aa.out, xs8 Ab.out⟩ (fun hHeld => ?_)
 clear hK K
 refine bV (a' := ?_) ?_ ?_
 rotate_left
 {
 show Act.put _ (some 36) _ = _
 simp only [Act.put, xl1, xl2, xl3, ag, ak]
 rfl
 }
 refine xpu 14 39 ?_
 refine xpu 15 40 ?_
 refine xpu 16 41 ?_
 refine xpu 17 42 ?_
 refine xpu 19 44 ?_
 refine xpu 20 45 ?_
 refine dm (i := 18) (N := some 43) #[true, true, true, true, true, true, true, true, true, true, true, true, true, true, true, true, true, true, true, true, true, false, false, false, false, false, false, false, false, false, false, false, false, false, false, false, false, false, false, false, false, false, false, false, false, false, false] rfl rfl (ev rfl (by kernel_rfl)) (by decide) (fun K hK => ?_)
 refine gp Tryz.func15 (by kernel_rfl) rfl #[.int .i64 a0] (by rfl) rfl rfl (by (try simp only [List.map_toArray, List.map_cons, List.map_nil]); first | done | rfl | (simp only [List.length_drop, List.length_take]; rfl)) ?_
 (with_reducible refine (aM (w := _) (h := A12.out)).mono ?_)
 rintro e w' ⟨rfl, ⟨nd, rfl⟩⟩
 refine ⟨_, rfl, ?_⟩
 refine hK.out _ _ ⟨xs8 Aa.out, xs8 Ab.out⟩ (fun hHeld => ?_)
 clear hK K
 refine bV (a' := ?_) ?_ ?_
 rotate_left
 {
 show Act.put _ (some 43) _ = _
 simp only [Act.put, xl1, xl2, xl3, ag, ak]
 rfl
 }
 refine xpu 21 46 ?_
 refine xpo 22 47 ?_
 refine xpo 23 48 ?_
 refine xpu 24 49 ?_
 refine xpu 25 50 ?_
 refine xpu 26 51 ?_
 refine xpu 27 52 ?_
 refine xpu 28 53 ?_
 refine xpu 29 54 ?_
 refine xpu 30 55 ?_
 refine xpu 33 58 ?_
 refine xtk 31 56 ?_
 refine dm (i := 32) (N := some 57) #[true, true, true, true, true, true, true, true, true, true, true, true, true, true, true, true, true, true, true, true, true, true, true, true, true, true, true, true, true, true, true, true, true, true, false, false, false, false, false, false, false, false, false, false, false, false, false] rfl rfl (ev rfl (by kernel_rfl)) (by decide) (fun K hK => ?_)
 refine gp Tryz.func16 (by kernel_rfl) rfl #[.agg #[.string Ae, .bool Af, .string Ag, .string Ah, .bool Ai, .string Aj, .bool Ak, .string Al]] (by rfl) rfl rfl (by (try simp only [List.map_toArray, List.map_cons, List.map_nil]); first | done | rfl | (simp only [List.length_drop, List.length_take]; rfl)) ?_
 (with_reducible refine (mu (w := _) (h := A16.out)).mono ?_)
 rintro e w31 ⟨rfl, hb⟩
 refine ⟨_, rfl, ?_⟩
 have n0_ := xbb (g := Ad) (o := .cells #[.string Ae, .bool Af, .string Ag, .string Ah, .bool Ai, .string Aj, .bool Ak, .string Al] 24 (0, 0)) hb
 have n1_ := xbb (g := Ac) (o := .cells #[.string Am, .bool An, .string Ao, .string Ap, .bool Aq, .string Ar, .bool As, .string At] 24 (0, 0)) hb
 have n2_ := xst hb
 clear Aa
 clear Ab
 clear HB
 have Aa := n0_
 have Ab := n1_
 have HB := n2_
 clear n0_ n1_ n2_
 (try clear hb)
 refine hK.out _ _ ⟨xs8 Aa.out, xs8 Ab.out⟩ (fun hHeld => ?_)
 clear hK K
 refine bV (a' := ?_) ?_ ?_
 rotate_left
 {
 show Act.put _ (some 57) _ = _
 simp only [Act.put, xl1, xl2, xl3, ag, ak]
 rfl
 }
 refine xpu 34 59 ?_
 refine xpu 35 60 ?_
 refine xpu 36 61 ?_
 refine xtk 38 63 ?_
 refine dm (i := 37) (N := some 62) #[true, true, true, true, true, true, true, true, true, true, true, true, true, true, true, true, true, true, true, true, true, true, true, true, true, true, true, true, true, true, true, true, true, true, true, true, true, true, true, false, false, false, false, false, false, false, false] rfl rfl (ev rfl (by kernel_rfl)) (by decide) (fun K hK => ?_)
 refine gp Tryz.func17 (by kernel_rfl) rfl #[.string a1] (by rfl) rfl rfl (by (try simp only [List.map_toArray, List.map_cons, List.map_nil]); first | done | rfl | (simp only [List.length_drop, List.length_take]; rfl)) ?_
 (with_reducible refine (lJ (w := _) (h := A18.out)).mono ?_)
 rintro e w32 ⟨rfl, hb⟩
 refine ⟨_, rfl, ?_⟩
 have n0_ := xbb (g := Ad) (o := .cells #[.string Ae, .bool Af, .string Ag, .string Ah, .bool Ai, .string Aj, .bool Ak, .string Al] 24 (0, 0)) hb
 have n1_ := xbb (g := Ac) (o := .cells #[.string Am, .bool An, .string Ao, .string Ap, .bool Aq, .string Ar, .bool As, .string At] 24 (0, 0)) hb
 have n2_ := xst hb
 clear Aa
 clear Ab
 clear HB
 have Aa := n0_
 have Ab := n1_
 have HB := n2_
 clear n0_ n1_ n2_
 (try clear hb)
 refine hK.out _ _ ⟨xs8 Aa.out, xs8 Ab.out⟩ (fun hHeld => ?_)
 clear hK K
 refine bV (a' := ?_) ?_ ?_
 rotate_left
 {
 show Act.put _ (some 62) _ = _
 simp only [Act.put, xl1, xl2, xl3, ag, ak]
 rfl
 }
 refine xpu 39 64 ?_
 refine xpu 40 65 ?_
 refine xpu 41 66 ?_
 refine xpu 42 67 ?_
 refine xpu 43 68 ?_
 refine dm (i := 44) (N := some 69) #[true, true, true, true, true, true, true, true, true, true, true, true, true, true, true, true, true, true, true, true, true, true, true, true, true, true, true, true, true, true, true, true, true, true, true, true, true, true, true, true, true, true, true, true, true, false, false] rfl rfl (ev rfl (by kernel_rfl)) (by decide) (fun K hK => ?_)
 refine gp Tryz.func6 (by kernel_rfl) rfl #[] (by rfl) rfl rfl (by (try simp only [List.map_toArray, List.map_cons, List.map_nil]); first | done | rfl | (simp only [List.length_drop, List.length_take]; rfl)) ?_
 with_reducible refine (es k  Bm _ ?side1 A20.out).mono ?_
 (case side1 => first | (with_reducible exact hG) | exact eZ hG xbl)
 rintro e w33 ⟨rfl, hb⟩
 refine ⟨_, rfl, ?_⟩
 have n0_ := xbb (g := Ad) (o := .cells #[.string Ae, .bool Af, .string Ag, .string Ah, .bool Ai, .string Aj, .bool Ak, .string Al] 24 (0, 0)) hb
 have n1_ := xbb (g := Ac) (o := .cells #[.string Am, .bool An, .string Ao, .string Ap, .bool Aq, .string Ar, .bool As, .string At] 24 (0, 0)) hb
 have n2_ := xst hb
 clear Aa
 clear Ab
 clear HB
 have Aa := n0_
 have Ab := n1_
 have HB := n2_
 clear n0_ n1_ n2_
 (try clear hb)
 refine hK.out _ _ ⟨xs8 Aa.out, xs8 Ab.out⟩ (fun hHeld => ?_)
 clear hK K
 refine bV (a' := ?_) ?_ ?_
 rotate_left
 {
 show Act.put _ (some 69) _ = _
 simp only [Act.put, xl1, xl2, xl3, ag, ak]
 rfl
 }
 refine xpu 45 70 ?_
 refine xpu 46 4 ?_
 refine xdn ?_
 try go_wp2
 go_ret
 exact ⟨xre, xbl⟩
 }
 have A8 : (AF.toList == Ae.toList && (AG == Af && (AH.toList == Ag.toList && (AI.toList == Ah.toList && (AJ == Ai && (AK.toList == Aj.toList && (AL == Ak && (AM.toList == Al.toList)))))))) = false := by simpa using c19
 (try (have Bs : decide (AF.toList = Ae.toList && (AG == Af && (AH.toList == Ag.toList && (AI.toList == Ah.toList && (AJ == Ai && (AK.toList == Aj.toList && (AL == Ak && (AM.toList == Al.toList)))))))) = false := by simpa using c19))
 (try (have Bt : (AF.toList == Ae.toList && (AG == Af && (AH.toList == Ag.toList && (AI.toList == Ah.toList && (AJ == Ai && (AK.toList == Aj.toList && (AL == Ak && (AM.toList == Al.toList)))))))) = false := by simpa using c19))
 (try (have Bu : ¬ (AF.toList = Ae.toList && (AG == Af && (AH.toList == Ag.toList && (AI.toList == Ah.toList && (AJ == Ai && (AK.toList == Aj.toList && (AL == Ak && (AM.toList == Al.toList)))))))) := by simpa using c19))
 clear c19
 exact absurd H (by simp)
 }
 obtain ⟨A3, A5⟩ := xqn c17
 exact absurd H (by simp)
 }
 obtain ⟨AA, A2⟩ := xqn c15
 have AB : Ax = false := by simpa [AA] using Ay
 replace H := xbd H
 obtain ⟨Bn, A34, H⟩ := H
 try dsimp only at H
 obtain rfl := Option.some.inj H
 go_enter Tryz.func5, Tryz.ntmps5
 try go_wp2_with (first | ((with_reducible refine xgc (f := 7) rfl ?_); refine xca 16 Tryz.func7 (gI (w := _) (hG := xG) (h := A6.out)) ?_; rintro w35 hb; replace HB := xst hb; (try clear hb)) | ((with_reducible refine aj (N := 5) rfl ?_); refine xew 5 ?_; intro Ad w36 Aa AC hb hg; replace HB := xst hb; clear hb hg; have BM := xz8 Aa.out) | ((with_reducible refine xgc (f := 12) rfl ?_); refine xca 22 Tryz.func12 (fO (w := _) (h := A7.out)) ?_; rintro w38 hb; replace Aa := xbb (g := Ad) (o := .cells #[.string Ae, .bool Af, .string Ag, .string Ah, .bool Ai, .string Aj, .bool Ak, .string Al] 24 (0, 0)) hb; replace HB := xst hb; (try clear hb)) | ((with_reducible refine aj (N := 7) rfl ?_); refine xew 7 ?_; intro Ac w39 Ab AD hb hg; have Au := xlt (g := Ad) hg; have Av := xgt (g := Ad) hg; replace Aa := xbb (g := Ad) (o := .cells #[.string Ae, .bool Af, .string Ag, .string Ah, .bool Ai, .string Aj, .bool Ak, .string Al] 24 (0, 0)) hb; replace HB := xst hb; clear hb hg; have Bv := Av.out; have Bw := Au.out; have BN := xz8 Ab.out))
 obtain ⟨w42, hW_⟩ : ∃ W_, (((((((w39.setCell ⟨Ac, 0, none⟩ (.string Am)).setCell ⟨Ac, 1, none⟩ (.bool An)).setCell ⟨Ac, 2, none⟩ (.string Ao)).setCell ⟨Ac, 3, none⟩ (.string Ap)).setCell ⟨Ac, 4, none⟩ (.bool Aq)).setCell ⟨Ac, 5, none⟩ (.string Ar)).setCell ⟨Ac, 6, none⟩ (.bool As)).setCell ⟨Ac, 7, none⟩ (.string At) = W_ := ⟨_, rfl⟩
 have n0_ : Zz (w42.heap[Ad]? = some (.cells #[.string Ae, .bool Af, .string Ag, .string Ah, .bool Ai, .string Aj, .bool Ak, .string Al] 24 (0, 0))) := ⟨by rw [← hW_]; exact xbK⟩
 have n1_ : Zz (w42.heap[Ac]? = some (.cells #[.string Am, .bool An, .string Ao, .string Ap, .bool Aq, .string Ar, .bool As, .string At] 24 (0, 0))) := ⟨by rw [← hW_]; exact xbK⟩
 have n2_ : Zz (Below w.heap.size w w42) := ⟨by rw [← hW_]; exact xbl⟩
 (try clear Aa)
 (try clear Ab)
 (try clear HB)
 try simp only [show ∀ (w_ : World) (n_ : Nat) (a_ : Addr) (v_ : Value), (w_.drewN n_).setCell a_ v_ = (w_.setCell a_ v_).drewN n_ from fun _ _ _ _ => rfl]
 rw [hW_]
 clear hW_
 have Aa := n0_
 have Ab := n1_
 have HB := n2_
 clear n0_ n1_ n2_
 replace Aa := Zz.mk (bc Aa.out)
 replace Ab := Zz.mk (bc Ab.out)
 replace HB := Zz.mk (aA HB.out)
 refine io (n := 47) (S := fun w' => xS8 Ad (.string Ae) (.bool Af) (.string Ag) (.string Ah) (.bool Ai) (.string Aj) (.bool Ak) (.string Al) w' ∧ xS8 Ac (.string Am) (.bool An) (.string Ao) (.string Ap) (.bool Aq) (.string Ar) (.bool As) (.string At) w') (ds := []) #[false, false, false, false, false, false, false, false, false, false, false, false, false, false, false, false, false, false, false, false, false, false, false, false, false, false, false, false, false, false, false, false, false, false, false, false, false, false, false, false, false, false, false, false, false, false, false] (by kernel_rfl) rfl rfl ⟨xs8 Aa.out, xs8 Ab.out⟩ (fun hHeld => ?_)
 generalize w42.drew = w43 at Aa Ab HB hHeld ⊢
 refine xtk 0 25 ?_
 refine xtk 1 26 ?_
 refine xpu 2 27 ?_
 refine xpu 3 28 ?_
 refine xpu 4 29 ?_
 refine xpu 5 30 ?_
 refine xpu 6 31 ?_
 refine xpu 7 32 ?_
 refine xpu 8 33 ?_
 refine xpu 9 34 ?_
 refine xpu 10 35 ?_
 refine xpu 12 37 ?_
 refine xpu 13 38 ?_
 refine dm (i := 11) (N := some 36) #[true, true, true, true, true, true, true, true, true, true, true, true, true, true, false, false, false, false, false, false, false, false, false, false, false, false, false, false, false, false, false, false, false, false, false, false, false, false, false, false, false, false, false, false, false, false, false] rfl rfl (ev rfl (by kernel_rfl)) (by decide) (fun K hK => ?_)
 refine gp Tryz.func14 (by kernel_rfl) rfl #[.int .i64 a0, .string a1] (by rfl) rfl rfl (by (try simp only [List.map_toArray, List.map_cons, List.map_nil]); first | done | rfl | (simp only [List.length_drop, List.length_take]; rfl)) ?_
 (with_reducible refine (dh (w := _) (hG := xG) (h := A10.out)).mono ?_)
 rintro e w44 ⟨rfl, hb⟩
 refine ⟨_, rfl, ?_⟩
 have n0_ := xbb (g := Ad) (o := .cells #[.string Ae, .bool Af, .string Ag, .string Ah, .bool Ai, .string Aj, .bool Ak, .string Al] 24 (0, 0)) hb
 have n1_ := xbb (g := Ac) (o := .cells #[.string Am, .bool An, .string Ao, .string Ap, .bool Aq, .string Ar, .bool As, .string At] 24 (0, 0)) hb
 have n2_ := xst hb
 clear Aa
 clear Ab
 clear HB
 have Aa := n0_
 have Ab := n1_
 have HB := n2_
 clear n0_ n1_ n2_
 (try clear hb)
 refine hK.out _ _ ⟨xs8 Aa.out, xs8 Ab.out⟩ (fun hHeld => ?_)
 clear hK K
 refine bV (a' := ?_) ?_ ?_
 rotate_left
 {
 show Act.put _ (some 36) _ = _
 simp only [Act.put, xl1, xl2, xl3, ag, ak]
 rfl
 }
 refine xpu 14 39 ?_
 refine xpu 15 40 ?_
 refine xpu 16 41 ?_
 refine xpu 17 42 ?_
 refine xpu 19 44 ?_
 refine xpu 20 45 ?_
 refine dm (i := 18) (N := some 43) #[true, true, true, true, true, true, true, true, true, true, true, true, true, true, true, true, true, true, true, true, true, false, false, false, false, false, false, false, false, false, false, false, false, false, false, false, false, false, false, false, false, false, false, false, false, false, false] rfl rfl (ev rfl (by kernel_rfl)) (by decide) (fun K hK => ?_)
 refine gp Tryz.func15 (by kernel_rfl) rfl #[.int .i64 a0] (by rfl) rfl rfl (by (try simp only [List.map_toArray, List.map_cons, List.map_nil]); first | done | rfl | (simp only [List.length_drop, List.length_take]; rfl)) ?_
 (with_reducible refine (aM (w := _) (h := A12.out)).mono ?_)
 rintro e w' ⟨rfl, ⟨nd, rfl⟩⟩
 refine ⟨_, rfl, ?_⟩
 refine hK.out _ _ ⟨xs8 Aa.out, xs8 Ab.out⟩ (fun hHeld => ?_)
 clear hK K
 refine bV (a' := ?_) ?_ ?_
 rotate_left
 {
 show Act.put _ (some 43) _ = _
 simp only [Act.put, xl1, xl2, xl3, ag, ak]
 rfl
 }
 refine xpu 21 46 ?_
 refine xpo 22 47 ?_
 refine xpo 23 48 ?_
 refine xpu 24 49 ?_
 refine xpu 25 50 ?_
 refine xpu 26 51 ?_
 refine xpu 27 52 ?_
 refine xpu 28 53 ?_
 refine xpu 29 54 ?_
 refine xpu 30 55 ?_
 refine xpo 31 56 ?_
 refine xpo 32 57 ?_
 refine xpo 33 58 ?_
 refine xpo 34 59 ?_
 refine xpo 35 60 ?_
 refine xpo 36 61 ?_
 refine xpo 37 62 ?_
 refine xpo 38 63 ?_
 refine xpo 39 64 ?_
 refine xpo 40 65 ?_
 refine xpu 41 66 ?_
 refine xpu 42 67 ?_
 refine xpu 43 68 ?_
 refine dm (i := 44) (N := some 69) #[true, true, true, true, true, true, true, true, true, true, true, true, true, true, true, true, true, true, true, true, true, true, true, true, true, true, true, true, true, true, true, true, true, true, true, true, true, true, true, true, true, true, true, true, true, false, false] rfl rfl (ev rfl (by kernel_rfl)) (by decide) (fun K hK => ?_)
 refine gp Tryz.func6 (by kernel_rfl) rfl #[] (by rfl) rfl rfl (by (try simp only [List.map_toArray, List.map_cons, List.map_nil]); first | done | rfl | (simp only [List.length_drop, List.length_take]; rfl)) ?_
 with_reducible refine (es k  Bn _ ?side1 A34.out).mono ?_
 (case side1 => first | (with_reducible exact hG) | exact eZ hG xbl)
 rintro e w45 ⟨rfl, hb⟩
 refine ⟨_, rfl, ?_⟩
 have n0_ := xbb (g := Ad) (o := .cells #[.string Ae, .bool Af, .string Ag, .string Ah, .bool Ai, .string Aj, .bool Ak, .string Al] 24 (0, 0)) hb
 have n1_ := xbb (g := Ac) (o := .cells #[.string Am, .bool An, .string Ao, .string Ap, .bool Aq, .string Ar, .bool As, .string At] 24 (0, 0)) hb
 have n2_ := xst hb
 clear Aa
 clear Ab
 clear HB
 have Aa := n0_
 have Ab := n1_
 have HB := n2_
 clear n0_ n1_ n2_
 (try clear hb)
 refine hK.out _ _ ⟨xs8 Aa.out, xs8 Ab.out⟩ (fun hHeld => ?_)
 clear hK K
 refine bV (a' := ?_) ?_ ?_
 rotate_left
 {
 show Act.put _ (some 69) _ = _
 simp only [Act.put, xl1, xl2, xl3, ag, ak]
 rfl
 }
 refine xpu 45 70 ?_
 refine xpu 46 4 ?_
 refine xdn ?_
 try go_wp2
 go_ret
 exact ⟨xre, xbl⟩
 }
 have AZ : (Aw == true) = false := by simpa using c14
 (try (have A0 : decide (Aw = true) = false := by simpa using c14))
 (try (have A1 : (Aw == true) = false := by simpa using c14))
 (try (have Bx : ¬ (Aw = true) := by simpa using c14))
 clear c14
 exact absurd H (by simp)
 }
 obtain ⟨AX, AY⟩ := xqn c13
 refine xid H ?_ ?_ <;> clear H <;> intro c46 H
 {
 have A9 : (Aw == (a0 == 5)) = true := c46
 (try (have Ba : decide (Aw = (a0 == 5)) = true := by simpa using c46))
 (try (have Bb : (Aw == (a0 == 5)) = true := by simpa using c46))
 clear c46
 refine xid H ?_ ?_ <;> clear H <;> intro c47 H
 {
 obtain ⟨AE, Bc⟩ := xqe c47
 have AB : Ax = true := by simpa [AE] using Ay
 clear c47
 replace H := xbd H
 obtain ⟨BO, A48, H⟩ := H
 try dsimp only at H
 refine xid H ?_ ?_ <;> clear H <;> intro c49 H
 {
 obtain ⟨Bd, Be⟩ := xqe c49
 clear c49
 replace H := xbd H
 obtain ⟨⟨AN, AO, AP, AQ, AR, AS, AT, AU⟩, A50, H⟩ := H
 try dsimp only at H
 refine xid H ?_ ?_ <;> clear H <;> intro c51 H
 {
 have Bf := c51
 clear c51
 replace H := xbd H
 obtain ⟨Bo, A52, H⟩ := H
 try dsimp only at H
 obtain rfl := Option.some.inj H
 go_enter Tryz.func5, Tryz.ntmps5
 try go_wp2_with (first | ((with_reducible refine xgc (f := 7) rfl ?_); refine xca 16 Tryz.func7 (gI (w := _) (hG := xG) (h := A6.out)) ?_; rintro w53 hb; replace HB := xst hb; (try clear hb)) | ((with_reducible refine aj (N := 5) rfl ?_); refine xew 5 ?_; intro Ad w54 Aa AC hb hg; replace HB := xst hb; clear hb hg; have BP := xz8 Aa.out) | ((with_reducible refine xgc (f := 12) rfl ?_); refine xca 22 Tryz.func12 (fO (w := _) (h := A7.out)) ?_; rintro w56 hb; replace Aa := xbb (g := Ad) (o := .cells #[.string Ae, .bool Af, .string Ag, .string Ah, .bool Ai, .string Aj, .bool Ak, .string Al] 24 (0, 0)) hb; replace HB := xst hb; (try clear hb)) | ((with_reducible refine aj (N := 7) rfl ?_); refine xew 7 ?_; intro Ac w57 Ab AD hb hg; have Au := xlt (g := Ad) hg; have Av := xgt (g := Ad) hg; replace Aa := xbb (g := Ad) (o := .cells #[.string Ae, .bool Af, .string Ag, .string Ah, .bool Ai, .string Aj, .bool Ak, .string Al] 24 (0, 0)) hb; replace HB := xst hb; clear hb hg; have By := Av.out; have Bz := Au.out; have BQ := xz8 Ab.out))
 obtain ⟨w60, hW_⟩ : ∃ W_, (((((((w57.setCell ⟨Ac, 0, none⟩ (.string Am)).setCell ⟨Ac, 1, none⟩ (.bool An)).setCell ⟨Ac, 2, none⟩ (.string Ao)).setCell ⟨Ac, 3, none⟩ (.string Ap)).setCell ⟨Ac, 4, none⟩ (.bool Aq)).setCell ⟨Ac, 5, none⟩ (.string Ar)).setCell ⟨Ac, 6, none⟩ (.bool As)).setCell ⟨Ac, 7, none⟩ (.string At) = W_ := ⟨_, rfl⟩
 have n0_ : Zz (w60.heap[Ad]? = some (.cells #[.string Ae, .bool Af, .string Ag, .string Ah, .bool Ai, .string Aj, .bool Ak, .string Al] 24 (0, 0))) := ⟨by rw [← hW_]; exact xbK⟩
 have n1_ : Zz (w60.heap[Ac]? = some (.cells #[.string Am, .bool An, .string Ao, .string Ap, .bool Aq, .string Ar, .bool As, .string At] 24 (0, 0))) := ⟨by rw [← hW_]; exact xbK⟩
 have n2_ : Zz (Below w.heap.size w w60) := ⟨by rw [← hW_]; exact xbl⟩
 (try clear Aa)
 (try clear Ab)
 (try clear HB)
 try simp only [show ∀ (w_ : World) (n_ : Nat) (a_ : Addr) (v_ : Value), (w_.drewN n_).setCell a_ v_ = (w_.setCell a_ v_).drewN n_ from fun _ _ _ _ => rfl]
 rw [hW_]
 clear hW_
 have Aa := n0_
 have Ab := n1_
 have HB := n2_
 clear n0_ n1_ n2_
 replace Aa := Zz.mk (bc Aa.out)
 replace Ab := Zz.mk (bc Ab.out)
 replace HB := Zz.mk (aA HB.out)
 refine io (n := 47) (S := fun w' => xS8 Ad (.string Ae) (.bool Af) (.string Ag) (.string Ah) (.bool Ai) (.string Aj) (.bool Ak) (.string Al) w' ∧ xS8 Ac (.string Am) (.bool An) (.string Ao) (.string Ap) (.bool Aq) (.string Ar) (.bool As) (.string At) w') (ds := []) #[false, false, false, false, false, false, false, false, false, false, false, false, false, false, false, false, false, false, false, false, false, false, false, false, false, false, false, false, false, false, false, false, false, false, false, false, false, false, false, false, false, false, false, false, false, false, false] (by kernel_rfl) rfl rfl ⟨xs8 Aa.out, xs8 Ab.out⟩ (fun hHeld => ?_)
 generalize w60.drew = w61 at Aa Ab HB hHeld ⊢
 refine xtk 0 25 ?_
 refine xtk 1 26 ?_
 refine xpu 2 27 ?_
 refine xpu 3 28 ?_
 refine xpu 4 29 ?_
 refine xpu 5 30 ?_
 refine xpu 6 31 ?_
 refine xpu 7 32 ?_
 refine xpu 8 33 ?_
 refine xpu 9 34 ?_
 refine xpu 10 35 ?_
 refine xpu 12 37 ?_
 refine xpu 13 38 ?_
 refine dm (i := 11) (N := some 36) #[true, true, true, true, true, true, true, true, true, true, true, true, true, true, false, false, false, false, false, false, false, false, false, false, false, false, false, false, false, false, false, false, false, false, false, false, false, false, false, false, false, false, false, false, false, false, false] rfl rfl (ev rfl (by kernel_rfl)) (by decide) (fun K hK => ?_)
 refine gp Tryz.func14 (by kernel_rfl) rfl #[.int .i64 a0, .string a1] (by rfl) rfl rfl (by (try simp only [List.map_toArray, List.map_cons, List.map_nil]); first | done | rfl | (simp only [List.length_drop, List.length_take]; rfl)) ?_
 (with_reducible refine (dh (w := _) (hG := xG) (h := A10.out)).mono ?_)
 rintro e w62 ⟨rfl, hb⟩
 refine ⟨_, rfl, ?_⟩
 have n0_ := xbb (g := Ad) (o := .cells #[.string Ae, .bool Af, .string Ag, .string Ah, .bool Ai, .string Aj, .bool Ak, .string Al] 24 (0, 0)) hb
 have n1_ := xbb (g := Ac) (o := .cells #[.string Am, .bool An, .string Ao, .string Ap, .bool Aq, .string Ar, .bool As, .string At] 24 (0, 0)) hb
 have n2_ := xst hb
 clear Aa
 clear Ab
 clear HB
 have Aa := n0_
 have Ab := n1_
 have HB := n2_
 clear n0_ n1_ n2_
 (try clear hb)
 refine hK.out _ _ ⟨xs8 Aa.out, xs8 Ab.out⟩ (fun hHeld => ?_)
 clear hK K
 refine bV (a' := ?_) ?_ ?_
 rotate_left
 {
 show Act.put _ (some 36) _ = _
 simp only [Act.put, xl1, xl2, xl3, ag, ak]
 rfl
 }
 refine xpu 14 39 ?_
 refine xpu 15 40 ?_
 refine xpu 16 41 ?_
 refine xpu 17 42 ?_
 refine xpu 19 44 ?_
 refine xpu 20 45 ?_
 refine dm (i := 18) (N := some 43) #[true, true, true, true, true, true, true, true, true, true, true, true, true, true, true, true, true, true, true, true, true, false, false, false, false, false, false, false, false, false, false, false, false, false, false, false, false, false, false, false, false, false, false, false, false, false, false] rfl rfl (ev rfl (by kernel_rfl)) (by decide) (fun K hK => ?_)
 refine gp Tryz.func15 (by kernel_rfl) rfl #[.int .i64 a0] (by rfl) rfl rfl (by (try simp only [List.map_toArray, List.map_cons, List.map_nil]); first | done | rfl | (simp only [List.length_drop, List.length_take]; rfl)) ?_
 (with_reducible refine (aM (w := _) (h := A12.out)).mono ?_)
 rintro e w' ⟨rfl, ⟨nd, rfl⟩⟩
 refine ⟨_, rfl, ?_⟩
 refine hK.out _ _ ⟨xs8 Aa.out, xs8 Ab.out⟩ (fun hHeld => ?_)
 clear hK K
 refine bV (a' := ?_) ?_ ?_
 rotate_left
 {
 show Act.put _ (some 43) _ = _
 simp only [Act.put, xl1, xl2, xl3, ag, ak]
 rfl
 }
 refine xpu 21 46 ?_
 refine xpu 22 47 ?_
 refine xpu 23 48 ?_
 refine xpu 24 49 ?_
 refine xpu 25 50 ?_
 refine xpu 26 51 ?_
 refine xpu 27 52 ?_
 refine xpu 28 53 ?_
 refine xpu 29 54 ?_
 refine xpu 30 55 ?_
 refine xpu 33 58 ?_
 refine xtk 31 56 ?_
 refine dm (i := 32) (N := some 57) #[true, true, true, true, true, true, true, true, true, true, true, true, true, true, true, true, true, true, true, true, true, true, true, true, true, true, true, true, true, true, true, true, true, true, false, false, false, false, false, false, false, false, false, false, false, false, false] rfl rfl (ev rfl (by kernel_rfl)) (by decide) (fun K hK => ?_)
 refine gp Tryz.func16 (by kernel_rfl) rfl #[.agg #[.string Ae, .bool Af, .string Ag, .string Ah, .bool Ai, .string Aj, .bool Ak, .string Al]] (by rfl) rfl rfl (by (try simp only [List.map_toArray, List.map_cons, List.map_nil]); first | done | rfl | (simp only [List.length_drop, List.length_take]; rfl)) ?_
 (with_reducible refine (mu (w := _) (h := A48.out)).mono ?_)
 rintro e w63 ⟨rfl, hb⟩
 refine ⟨_, rfl, ?_⟩
 have n0_ := xbb (g := Ad) (o := .cells #[.string Ae, .bool Af, .string Ag, .string Ah, .bool Ai, .string Aj, .bool Ak, .string Al] 24 (0, 0)) hb
 have n1_ := xbb (g := Ac) (o := .cells #[.string Am, .bool An, .string Ao, .string Ap, .bool Aq, .string Ar, .bool As, .string At] 24 (0, 0)) hb
 have n2_ := xst hb
 clear Aa
 clear Ab
 clear HB
 have Aa := n0_
 have Ab := n1_
 have HB := n2_
 clear n0_ n1_ n2_
 (try clear hb)
 refine hK.out _ _ ⟨xs8 Aa.out, xs8 Ab.out⟩ (fun hHeld => ?_)
 clear hK K
 refine bV (a' := ?_) ?_ ?_
 rotate_left
 {
 show Act.put _ (some 57) _ = _
 simp only [Act.put, xl1, xl2, xl3, ag, ak]
 rfl
 }
 refine xpu 34 59 ?_
 refine xpu 35 60 ?_
 refine xpu 36 61 ?_
 refine xtk 38 63 ?_
 refine dm (i := 37) (N := some 62) #[true, true, true, true, true, true, true, true, true, true, true, true, true, true, true, true, true, true, true, true, true, true, true, true, true, true, true, true, true, true, true, true, true, true, true, true, true, true, true, false, false, false, false, false, false, false, false] rfl rfl (ev rfl (by kernel_rfl)) (by decide) (fun K hK => ?_)
 refine gp Tryz.func17 (by kernel_rfl) rfl #[.string a1] (by rfl) rfl rfl (by (try simp only [List.map_toArray, List.map_cons, List.map_nil]); first | done | rfl | (simp only [List.length_drop, List.length_take]; rfl)) ?_
 (with_reducible refine (lJ (w := _) (h := A50.out)).mono ?_)
 rintro e w64 ⟨rfl, hb⟩
 refine ⟨_, rfl, ?_⟩
 have n0_ := xbb (g := Ad) (o := .cells #[.string Ae, .bool Af, .string Ag, .string Ah, .bool Ai, .string Aj, .bool Ak, .string Al] 24 (0, 0)) hb
 have n1_ := xbb (g := Ac) (o := .cells #[.string Am, .bool An, .string Ao, .string Ap, .bool Aq, .string Ar, .bool As, .string At] 24 (0, 0)) hb
 have n2_ := xst hb
 clear Aa
 clear Ab
 clear HB
 have Aa := n0_
 have Ab := n1_
 have HB := n2_
 clear n0_ n1_ n2_
 (try clear hb)
 refine hK.out _ _ ⟨xs8 Aa.out, xs8 Ab.out⟩ (fun hHeld => ?_)
 clear hK K
 refine bV (a' := ?_) ?_ ?_
 rotate_left
 {
 show Act.put _ (some 62) _ = _
 simp only [Act.put, xl1, xl2, xl3, ag, ak]
 rfl
 }
 refine xpu 39 64 ?_
 refine xpu 40 65 ?_
 refine xpu 41 66 ?_
 refine xpu 42 67 ?_
 refine xpu 43 68 ?_
 refine dm (i := 44) (N := some 69) #[true, true, true, true, true, true, true, true, true, true, true, true, true, true, true, true, true, true, true, true, true, true, true, true, true, true, true, true, true, true, true, true, true, true, true, true, true, true, true, true, true, true, true, true, true, false, false] rfl rfl (ev rfl (by kernel_rfl)) (by decide) (fun K hK => ?_)
 refine gp Tryz.func6 (by kernel_rfl) rfl #[] (by rfl) rfl rfl (by (try simp only [List.map_toArray, List.map_cons, List.map_nil]); first | done | rfl | (simp only [List.length_drop, List.length_take]; rfl)) ?_
 with_reducible refine (es k  Bo _ ?side1 A52.out).mono ?_
 (case side1 => first | (with_reducible exact hG) | exact eZ hG xbl)
 rintro e w65 ⟨rfl, hb⟩
 refine ⟨_, rfl, ?_⟩
 have n0_ := xbb (g := Ad) (o := .cells #[.string Ae, .bool Af, .string Ag, .string Ah, .bool Ai, .string Aj, .bool Ak, .string Al] 24 (0, 0)) hb
 have n1_ := xbb (g := Ac) (o := .cells #[.string Am, .bool An, .string Ao, .string Ap, .bool Aq, .string Ar, .bool As, .string At] 24 (0, 0)) hb
 have n2_ := xst hb
 clear Aa
 clear Ab
 clear HB
 have Aa := n0_
 have Ab := n1_
 have HB := n2_
 clear n0_ n1_ n2_
 (try clear hb)
 refine hK.out _ _ ⟨xs8 Aa.out, xs8 Ab.out⟩ (fun hHeld => ?_)
 clear hK K
 refine bV (a' := ?_) ?_ ?_
 rotate_left
 {
 show Act.put _ (some 69) _ = _
 simp only [Act.put, xl1, xl2, xl3, ag, ak]
 rfl
 }
 refine xpu 45 70 ?_
 refine xpu 46 4 ?_
 refine xdn ?_
 try go_wp2
 go_ret
 exact ⟨xre, xbl⟩
 }
 have Bf : (AN.toList == Ae.toList && (AO == Af && (AP.toList == Ag.toList && (AQ.toList == Ah.toList && (AR == Ai && (AS.toList == Aj.toList && (AT == Ak && (AU.toList == Al.toList)))))))) = false := by simpa using c51
 (try (have BA : decide (AN.toList = Ae.toList && (AO == Af && (AP.toList == Ag.toList && (AQ.toList == Ah.toList && (AR == Ai && (AS.toList == Aj.toList && (AT == Ak && (AU.toList == Al.toList)))))))) = false := by simpa using c51))
 (try (have BB : (AN.toList == Ae.toList && (AO == Af && (AP.toList == Ag.toList && (AQ.toList == Ah.toList && (AR == Ai && (AS.toList == Aj.toList && (AT == Ak && (AU.toList == Al.toList)))))))) = false := by simpa using c51))
 (try (have BC : ¬ (AN.toList = Ae.toList && (AO == Af && (AP.toList == Ag.toList && (AQ.toList == Ah.toList && (AR == Ai && (AS.toList == Aj.toList && (AT == Ak && (AU.toList == Al.toList)))))))) := by simpa using c51))
 clear c51
 exact absurd H (by simp)
 }
 obtain ⟨Bd, Be⟩ := xqn c49
 exact absurd H (by simp)
 }
 obtain ⟨AE, Bc⟩ := xqn c47
 have AB : Ax = false := by simpa [AE] using Ay
 replace H := xbd H
 obtain ⟨Bp, A66, H⟩ := H
 try dsimp only at H
 obtain rfl := Option.some.inj H
 go_enter Tryz.func5, Tryz.ntmps5
 try go_wp2_with (first | ((with_reducible refine xgc (f := 7) rfl ?_); refine xca 16 Tryz.func7 (gI (w := _) (hG := xG) (h := A6.out)) ?_; rintro w67 hb; replace HB := xst hb; (try clear hb)) | ((with_reducible refine aj (N := 5) rfl ?_); refine xew 5 ?_; intro Ad w68 Aa AC hb hg; replace HB := xst hb; clear hb hg; have BR := xz8 Aa.out) | ((with_reducible refine xgc (f := 12) rfl ?_); refine xca 22 Tryz.func12 (fO (w := _) (h := A7.out)) ?_; rintro w70 hb; replace Aa := xbb (g := Ad) (o := .cells #[.string Ae, .bool Af, .string Ag, .string Ah, .bool Ai, .string Aj, .bool Ak, .string Al] 24 (0, 0)) hb; replace HB := xst hb; (try clear hb)) | ((with_reducible refine aj (N := 7) rfl ?_); refine xew 7 ?_; intro Ac w71 Ab AD hb hg; have Au := xlt (g := Ad) hg; have Av := xgt (g := Ad) hg; replace Aa := xbb (g := Ad) (o := .cells #[.string Ae, .bool Af, .string Ag, .string Ah, .bool Ai, .string Aj, .bool Ak, .string Al] 24 (0, 0)) hb; replace HB := xst hb; clear hb hg; have BD := Av.out; have BE := Au.out; have BS := xz8 Ab.out))
 obtain ⟨w74, hW_⟩ : ∃ W_, (((((((w71.setCell ⟨Ac, 0, none⟩ (.string Am)).setCell ⟨Ac, 1, none⟩ (.bool An)).setCell ⟨Ac, 2, none⟩ (.string Ao)).setCell ⟨Ac, 3, none⟩ (.string Ap)).setCell ⟨Ac, 4, none⟩ (.bool Aq)).setCell ⟨Ac, 5, none⟩ (.string Ar)).setCell ⟨Ac, 6, none⟩ (.bool As)).setCell ⟨Ac, 7, none⟩ (.string At) = W_ := ⟨_, rfl⟩
 have n0_ : Zz (w74.heap[Ad]? = some (.cells #[.string Ae, .bool Af, .string Ag, .string Ah, .bool Ai, .string Aj, .bool Ak, .string Al] 24 (0, 0))) := ⟨by rw [← hW_]; exact xbK⟩
 have n1_ : Zz (w74.heap[Ac]? = some (.cells #[.string Am, .bool An, .string Ao, .string Ap, .bool Aq, .string Ar, .bool As, .string At] 24 (0, 0))) := ⟨by rw [← hW_]; exact xbK⟩
 have n2_ : Zz (Below w.heap.size w w74) := ⟨by rw [← hW_]; exact xbl⟩
 (try clear Aa)
 (try clear Ab)
 (try clear HB)
 try simp only [show ∀ (w_ : World) (n_ : Nat) (a_ : Addr) (v_ : Value), (w_.drewN n_).setCell a_ v_ = (w_.setCell a_ v_).drewN n_ from fun _ _ _ _ => rfl]
 rw [hW_]
 clear hW_
 have Aa := n0_
 have Ab := n1_
 have HB := n2_
 clear n0_ n1_ n2_
 replace Aa := Zz.mk (bc Aa.out)
 replace Ab := Zz.mk (bc Ab.out)
 replace HB := Zz.mk (aA HB.out)
 refine io (n := 47) (S := fun w' => xS8 Ad (.string Ae) (.bool Af) (.string Ag) (.string Ah) (.bool Ai) (.string Aj) (.bool Ak) (.string Al) w' ∧ xS8 Ac (.string Am) (.bool An) (.string Ao) (.string Ap) (.bool Aq) (.string Ar) (.bool As) (.string At) w') (ds := []) #[false, false, false, false, false, false, false, false, false, false, false, false, false, false, false, false, false, false, false, false, false, false, false, false, false, false, false, false, false, false, false, false, false, false, false, false, false, false, false, false, false, false, false, false, false, false, false] (by kernel_rfl) rfl rfl ⟨xs8 Aa.out, xs8 Ab.out⟩ (fun hHeld => ?_)
 generalize w74.drew = w75 at Aa Ab HB hHeld ⊢
 refine xtk 0 25 ?_
 refine xtk 1 26 ?_
 refine xpu 2 27 ?_
 refine xpu 3 28 ?_
 refine xpu 4 29 ?_
 refine xpu 5 30 ?_
 refine xpu 6 31 ?_
 refine xpu 7 32 ?_
 refine xpu 8 33 ?_
 refine xpu 9 34 ?_
 refine xpu 10 35 ?_
 refine xpu 12 37 ?_
 refine xpu 13 38 ?_
 refine dm (i := 11) (N := some 36) #[true, true, true, true, true, true, true, true, true, true, true, true, true, true, false, false, false, false, false, false, false, false, false, false, false, false, false, false, false, false, false, false, false, false, false, false, false, false, false, false, false, false, false, false, false, false, false] rfl rfl (ev rfl (by kernel_rfl)) (by decide) (fun K hK => ?_)
 refine gp Tryz.func14 (by kernel_rfl) rfl #[.int .i64 a0, .string a1] (by rfl) rfl rfl (by (try simp only [List.map_toArray, List.map_cons, List.map_nil]); first | done | rfl | (simp only [List.length_drop, List.length_take]; rfl)) ?_
 (with_reducible refine (dh (w := _) (hG := xG) (h := A10.out)).mono ?_)
 rintro e w76 ⟨rfl, hb⟩
 refine ⟨_, rfl, ?_⟩
 have n0_ := xbb (g := Ad) (o := .cells #[.string Ae, .bool Af, .string Ag, .string Ah, .bool Ai, .string Aj, .bool Ak, .string Al] 24 (0, 0)) hb
 have n1_ := xbb (g := Ac) (o := .cells #[.string Am, .bool An, .string Ao, .string Ap, .bool Aq, .string Ar, .bool As, .string At] 24 (0, 0)) hb
 have n2_ := xst hb
 clear Aa
 clear Ab
 clear HB
 have Aa := n0_
 have Ab := n1_
 have HB := n2_
 clear n0_ n1_ n2_
 (try clear hb)
 refine hK.out _ _ ⟨xs8 Aa.out, xs8 Ab.out⟩ (fun hHeld => ?_)
 clear hK K
 refine bV (a' := ?_) ?_ ?_
 rotate_left
 {
 show Act.put _ (some 36) _ = _
 simp only [Act.put, xl1, xl2, xl3, ag, ak]
 rfl
 }
 refine xpu 14 39 ?_
 refine xpu 15 40 ?_
 refine xpu 16 41 ?_
 refine xpu 17 42 ?_
 refine xpu 19 44 ?_
 refine xpu 20 45 ?_
 refine dm (i := 18) (N := some 43) #[true, true, true, true, true, true, true, true, true, true, true, true, true, true, true, true, true, true, true, true, true, false, false, false, false, false, false, false, false, false, false, false, false, false, false, false, false, false, false, false, false, false, false, false, false, false, false] rfl rfl (ev rfl (by kernel_rfl)) (by decide) (fun K hK => ?_)
 refine gp Tryz.func15 (by kernel_rfl) rfl #[.int .i64 a0] (by rfl) rfl rfl (by (try simp only [List.map_toArray, List.map_cons, List.map_nil]); first | done | rfl | (simp only [List.length_drop, List.length_take]; rfl)) ?_
 (with_reducible refine (aM (w := _) (h := A12.out)).mono ?_)
 rintro e w' ⟨rfl, ⟨nd, rfl⟩⟩
 refine ⟨_, rfl, ?_⟩
 refine hK.out _ _ ⟨xs8 Aa.out, xs8 Ab.out⟩ (fun hHeld => ?_)
 clear hK K
 refine bV (a' := ?_) ?_ ?_
 rotate_left
 {
 show Act.put _ (some 43) _ = _
 simp only [Act.put, xl1, xl2, xl3, ag, ak]
 rfl
 }
 refine xpu 21 46 ?_
 refine xpu 22 47 ?_
 refine xpu 23 48 ?_
 refine xpu 24 49 ?_
 refine xpu 25 50 ?_
 refine xpu 26 51 ?_
 refine xpu 27 52 ?_
 refine xpu 28 53 ?_
 refine xpu 29 54 ?_
 refine xpu 30 55 ?_
 refine xpo 31 56 ?_
 refine xpo 32 57 ?_
 refine xpo 33 58 ?_
 refine xpo 34 59 ?_
 refine xpo 35 60 ?_
 refine xpo 36 61 ?_
 refine xpo 37 62 ?_
 refine xpo 38 63 ?_
 refine xpo 39 64 ?_
 refine xpo 40 65 ?_
 refine xpu 41 66 ?_
 refine xpu 42 67 ?_
 refine xpu 43 68 ?_
 refine dm (i := 44) (N := some 69) #[true, true, true, true, true, true, true, true, true, true, true, true, true, true, true, true, true, true, true, true, true, true, true, true, true, true, true, true, true, true, true, true, true, true, true, true, true, true, true, true, true, true, true, true, true, false, false] rfl rfl (ev rfl (by kernel_rfl)) (by decide) (fun K hK => ?_)
 refine gp Tryz.func6 (by kernel_rfl) rfl #[] (by rfl) rfl rfl (by (try simp only [List.map_toArray, List.map_cons, List.map_nil]); first | done | rfl | (simp only [List.length_drop, List.length_take]; rfl)) ?_
 with_reducible refine (es k  Bp _ ?side1 A66.out).mono ?_
 (case side1 => first | (with_reducible exact hG) | exact eZ hG xbl)
 rintro e w77 ⟨rfl, hb⟩
 refine ⟨_, rfl, ?_⟩
 have n0_ := xbb (g := Ad) (o := .cells #[.string Ae, .bool Af, .string Ag, .string Ah, .bool Ai, .string Aj, .bool Ak, .string Al] 24 (0, 0)) hb
 have n1_ := xbb (g := Ac) (o := .cells #[.string Am, .bool An, .string Ao, .string Ap, .bool Aq, .string Ar, .bool As, .string At] 24 (0, 0)) hb
 have n2_ := xst hb
 clear Aa
 clear Ab
 clear HB
 have Aa := n0_
 have Ab := n1_
 have HB := n2_
 clear n0_ n1_ n2_
 (try clear hb)
 refine hK.out _ _ ⟨xs8 Aa.out, xs8 Ab.out⟩ (fun hHeld => ?_)
 clear hK K
 refine bV (a' := ?_) ?_ ?_
 rotate_left
 {
 show Act.put _ (some 69) _ = _
 simp only [Act.put, xl1, xl2, xl3, ag, ak]
 rfl
 }
 refine xpu 45 70 ?_
 refine xpu 46 4 ?_
 refine xdn ?_
 try go_wp2
 go_ret
 exact ⟨xre, xbl⟩
 }
 have A9 : (Aw == (a0 == 5)) = false := by simpa using c46
 (try (have Ba : decide (Aw = (a0 == 5)) = false := by simpa using c46))
 (try (have Bb : (Aw == (a0 == 5)) = false := by simpa using c46))
 (try (have BF : ¬ (Aw = (a0 == 5)) := by simpa using c46))
 clear c46
 exact absurd H (by simp)
 }
 have Ay : (Ax == (Az == 0)) = false := by simpa using c11
 (try (have AV : decide (Ax = (Az == 0)) = false := by simpa using c11))
 (try (have AW : (Ax == (Az == 0)) = false := by simpa using c11))
 (try (have BG : ¬ (Ax = (Az == 0)) := by simpa using c11))
 clear c11
 exact absurd H (by simp)
 }
 obtain ⟨Bk, Bl⟩ := xqn c9
 exact absurd H (by simp)
 }
 have Bj : (Ae.toList == Am.toList && (Af == An && (Ag.toList == Ao.toList && (Ah.toList == Ap.toList && (Ai == Aq && (Aj.toList == Ar.toList && (Ak == As && (Al.toList == At.toList)))))))) = false := by simpa using c8
 (try (have BT : decide (Ae.toList = Am.toList && (Af == An && (Ag.toList == Ao.toList && (Ah.toList == Ap.toList && (Ai == Aq && (Aj.toList == Ar.toList && (Ak == As && (Al.toList == At.toList)))))))) = false := by simpa using c8))
 (try (have BU : (Ae.toList == Am.toList && (Af == An && (Ag.toList == Ao.toList && (Ah.toList == Ap.toList && (Ai == Aq && (Aj.toList == Ar.toList && (Ak == As && (Al.toList == At.toList)))))))) = false := by simpa using c8))
 (try (have BV : ¬ (Ae.toList = Am.toList && (Af == An && (Ag.toList == Ao.toList && (Ah.toList == Ap.toList && (Ai == Aq && (Aj.toList == Ar.toList && (Ak == As && (Al.toList == At.toList)))))))) := by simpa using c8))
 clear c8
 exact absurd H (by simp)
 }
 
 
def kF : Prop := ∀ (a0 : Int) (a1 : ByteArray), (Lit.int .i64 a0).wf = true → a1.size ≤ 140737488351232 → ∃ k, e7 k a0 a1 = some true
end Go.Proofs.YtpmflpeckoeooaaGreatDoor.X
namespace Go.Proofs.YtpmflpeckoeooaaGreatDoor.M
open Go Go.RowKit Go.Proofs.YtpmflpeckoeooaaGreatDoorW.PrintWords
theorem w64 {x : Int} (h1 : -9223372036854775808 ≤ x) (h2 : x ≤ 9223372036854775807) : wrap64 x = x := by unfold wrap64; omega
theorem toList_data (s : ByteArray) : s.toList = s.data.toList := ByteArray.toList_eq s
theorem iE {a b : ByteArray} (h : aa a = aa b) : a = b := by
  unfold aa at h
  have : a.data.toList = b.data.toList := by
    apply List.map_inj_right (f := fun b : UInt8 => (b.toNat : Int)) _ |>.1 h
    intro x y hxy
    exact UInt8.toNat_inj.1 (by omega)
  cases a; cases b
  simp only [ByteArray.mk.injEq]
  exact Array.toList_inj.1 this
theorem kL {a b : ByteArray} : a.toList = b.toList ↔ aa a = aa b := by
  rw [toList_data, toList_data]
  exact ⟨fun h => by unfold aa; rw [h], fun h => by rw [iE h]⟩
theorem nV (a b : ByteArray) : aa (a ++ b) = aa a ++ aa b := by
  unfold aa
  rw [ByteArray.data_append, Array.toList_append, List.map_append]
theorem ay (a : ByteArray) (i j : Nat) : aa (a.extract i j) = ((aa a).take j).drop i := by
  unfold aa
  rw [ByteArray.data_extract, Array.toList_extract, List.extract_eq_take_drop, List.map_take, List.map_drop, List.drop_take]
theorem fI {s : ByteArray} {x : Int} (h : x ∈ aa s) : 0 ≤ x ∧ x ≤ 255 := by
  unfold aa at h
  obtain ⟨b, _, rfl⟩ := List.mem_map.1 h
  have := b.toNat_lt
  omega
theorem af (s : ByteArray) : (aa s).length = s.size := kU s
theorem km (s : ByteArray) (i : Nat) : bt s (i : Int) = (aa s).getD i 0 := by
  rw [← uk]; unfold rd; simp
theorem tf {s : ByteArray} {i : Nat} {b : Int} {t : List Int} (h : (aa s).drop i = b :: t) : bt s (i : Int) = b ∧ i < s.size ∧ (aa s).drop (i + 1) = t ∧ 0 ≤ b ∧ b ≤ 255 := by
  have hl : i < (aa s).length := by
    have := congrArg List.length h
    rw [List.length_drop, List.length_cons] at this
    omega
  have e := List.drop_eq_getElem_cons hl
  rw [h] at e
  injection e with e1 e2
  have hr := fI (s := s) (x := b) (by rw [e1]; exact List.getElem_mem hl)
  refine ⟨?_, by rw [← af]; exact hl, e2.symm, hr.1, hr.2⟩
  rw [km, List.getD_eq_getElem?_getD, List.getElem?_eq_getElem hl, e1]
  rfl
theorem qY {s : ByteArray} {i : Nat} (h : (aa s).drop i = []) : s.size ≤ i := by
  have := congrArg List.length h
  rw [List.length_drop, af] at this
  simp at this
  omega
theorem vZ {s : ByteArray} {n : Nat} (h : n < s.size) : (aa s).take (n + 1) = (aa s).take n ++ [bt s (n : Int)] := by
  have hl : n < (aa s).length := by rw [af]; exact h
  rw [List.take_succ_eq_append_getElem hl, km, List.getD_eq_getElem?_getD, List.getElem?_eq_getElem hl]
  rfl
theorem jx (s : ByteArray) (i : Int) : 0 ≤ bt s i ∧ bt s i ≤ 255 := qV s i
theorem o9 {α : Type} {g : Nat → Option α} {r : α} (h : ∀ k, g k = some r) : Ev g r := ⟨0, fun k _ => h k⟩
theorem ah {α β : Type} {g : Nat → Option α} {f : Nat → α → Option β} {a : α} {r : β} (h : Ev g a) (k : Ev (fun n => f n a) r) : Ev (fun n => (g n).bind fun t => f n t) r := Ev.bind h k
theorem aG {α β : Type} {o : Option α} {f : Nat → α → Option β} {a : α} {r : β} (h : o = some a) (k : Ev (fun n => f n a) r) : Ev (fun n => o.bind fun t => f n t) r := by
  subst h; exact k
theorem ab {α : Type} {c : Prop} [Decidable c] {g f : Nat → Option α} {r : α} (h : c) (k : Ev g r) : Ev (fun n => if c then g n else f n) r := by
  simp only [if_pos h]; exact k
theorem ae {α : Type} {c : Prop} [Decidable c] {g f : Nat → Option α} {r : α} (h : ¬ c) (k : Ev f r) : Ev (fun n => if c then g n else f n) r := by
  simp only [if_neg h]; exact k
theorem Ev.ite {α : Type} {c : Prop} [Decidable c] {g f : Nat → Option α} {r : α} (h : c → Ev g r) (k : ¬ c → Ev f r) : Ev (fun n => if c then g n else f n) r := by
  by_cases hc : c
  · exact ab hc (h hc)
  · exact ae hc (k hc)
theorem Ev.val {α : Type} {a r : α} (h : a = r) : Ev (fun _ => some a) r := by subst h; exact az _
def idx (c : Int) : List Int → Int
  | [] => -1
  | b :: t => if b = c then 0 else if idx c t = -1 then -1 else idx c t + 1
theorem le (c : Int) (l : List Int) : -1 ≤ idx c l := by
  induction l with
  | nil => simp [idx]
  | cons b t ih => unfold idx; split <;> (try split) <;> omega
theorem pj (c : Int) (l : List Int) : idx c l < l.length := by
  induction l with
  | nil => simp [idx]
  | cons b t ih => unfold idx; rw [List.length_cons]; split <;> (try split) <;> omega
theorem tX (c : Int) (l m : List Int) : idx c (l ++ m) = if idx c l = -1 then (if idx c m = -1 then -1 else idx c m + l.length) else idx c l := by
  induction l with
  | nil => simp only [List.nil_append, idx, if_true, List.length_nil]; split <;> omega
  | cons b t ih =>
    have := le c t
    have := le c m
    rw [List.cons_append]
    by_cases hb : b = c
    · simp [idx, hb]
    · simp only [idx, if_neg hb, ih, List.length_cons]
      by_cases h1 : idx c t = -1
      · by_cases h2 : idx c m = -1
        · simp [h1, h2]
        · simp only [h1, h2, if_true, if_false]
          rw [if_neg (by omega)]; omega
      · simp only [h1, if_false]
        rw [if_neg (by omega)]
theorem oX {c : Int} {l : List Int} : idx c l = -1 ↔ c ∉ l := by
  induction l with
  | nil => simp [idx]
  | cons b t ih =>
    have := le c t
    unfold idx
    by_cases hb : b = c
    · simp [hb]
    · simp only [if_neg hb, List.mem_cons, not_or]
      by_cases h1 : idx c t = -1
      · simp [h1, ih.1 h1, Ne.symm hb]
      · rw [if_neg h1]
        constructor
        · intro h; omega
        · intro h; exact absurd (ih.2 h.2) h1
theorem qo {c : Int} {l : List Int} (h : 0 ≤ idx c l) : l = l.take (idx c l).toNat ++ c :: l.drop ((idx c l).toNat + 1) ∧ c ∉ l.take (idx c l).toNat := by
  induction l with
  | nil => simp [idx] at h
  | cons b t ih =>
    unfold idx at h ⊢
    by_cases hb : b = c
    · simp [hb]
    · rw [if_neg hb] at h ⊢
      by_cases h1 : idx c t = -1
      · rw [if_pos h1] at h; omega
      · have hg := le c t
        rw [if_neg h1]
        obtain ⟨e1, e2⟩ := ih (by omega)
        have e : (idx c t + 1).toNat = (idx c t).toNat + 1 := by omega
        rw [e, List.take_succ_cons, List.drop_succ_cons, List.cons_append]
        refine ⟨by rw [← e1], ?_⟩
        rw [List.mem_cons, not_or]
        exact ⟨Ne.symm hb, e2⟩
def bP (c : Int) : List Int → Int
  | [] => -1
  | b :: t => if bP c t = -1 then (if b = c then 0 else -1) else bP c t + 1
theorem nh (c : Int) (l : List Int) : -1 ≤ bP c l := by
  induction l with
  | nil => simp [bP]
  | cons b t ih => unfold bP; split <;> (try split) <;> omega
theorem tr (c : Int) (l : List Int) : bP c l < l.length := by
  induction l with
  | nil => simp [bP]
  | cons b t ih => unfold bP; rw [List.length_cons]; split <;> (try split) <;> omega
theorem vx (c : Int) (l : List Int) (b : Int) : bP c (l ++ [b]) = if b = c then (l.length : Int) else bP c l := by
  induction l with
  | nil => simp [bP]
  | cons a t ih =>
    have := nh c t
    rw [List.cons_append]
    simp only [bP, ih, List.length_cons]
    by_cases hb : b = c
    · rw [if_pos hb, if_pos hb, if_neg (by omega)]; omega
    · simp only [if_neg hb]
theorem ob {c : Int} {l : List Int} : bP c l = -1 ↔ c ∉ l := by
  induction l with
  | nil => simp [bP]
  | cons b t ih =>
    have := nh c t
    unfold bP
    rw [List.mem_cons, not_or]
    by_cases h1 : bP c t = -1
    · rw [if_pos h1]
      by_cases hb : b = c
      · simp [hb]
      · rw [if_neg hb]; simp [ih.1 h1, Ne.symm hb]
    · rw [if_neg h1]
      constructor
      · intro h; omega
      · intro h; exact absurd (ih.2 h.2) h1
theorem ud {c : Int} {l : List Int} (h : 0 ≤ bP c l) : l = l.take (bP c l).toNat ++ c :: l.drop ((bP c l).toNat + 1) ∧ c ∉ l.drop ((bP c l).toNat + 1) := by
  induction l with
  | nil => simp [bP] at h
  | cons b t ih =>
    have hg := nh c t
    unfold bP at h ⊢
    by_cases h1 : bP c t = -1
    · rw [if_pos h1] at h ⊢
      by_cases hb : b = c
      · rw [if_pos hb]; simp [hb, ob.1 h1]
      · rw [if_neg hb] at h; omega
    · rw [if_neg h1] at h ⊢
      obtain ⟨e1, e2⟩ := ih (by omega)
      have e : (bP c t + 1).toNat = (bP c t).toNat + 1 := by omega
      rw [e, List.take_succ_cons, List.drop_succ_cons, List.cons_append]
      exact ⟨by rw [← e1], e2⟩
theorem qD (l : List UInt8) (c : UInt8) : Go.Lib.indexByte l c = idx (c.toNat : Int) (l.map fun b => (b.toNat : Int)) := by
  induction l with
  | nil => rfl
  | cons b t ih =>
    rw [List.map_cons]
    unfold Go.Lib.indexByte idx
    rw [ih]
    by_cases hb : b = c
    · simp [hb]
    · have h1 : (b == c) = false := by simpa using hb
      have h2 : ¬ ((b.toNat : Int) = (c.toNat : Int)) := fun h => hb (UInt8.toNat_inj.1 (by omega))
      rw [h1, if_neg h2]
      simp only [Bool.false_eq_true, if_false, beq_iff_eq]
theorem pk (s : ByteArray) (c : Int) (h0 : 0 ≤ c) (h1 : c ≤ 255) : Go.Lib.indexByte s.data.toList c.toNat.toUInt8 = idx c (aa s) := by
  rw [qD]
  have : ((c.toNat.toUInt8.toNat : Nat) : Int) = c := by
    rw [Nat.toUInt8, UInt8.toNat_ofNat']
    omega
  rw [this]; rfl
theorem b6 {p : Int → Prop} (h : ∀ n : Fin 256, p ((n.val : Nat) : Int)) {b : Int} (h0 : 0 ≤ b) (h1 : b ≤ 255) : p b := by
  have := h ⟨b.toNat, by omega⟩
  simp only at this
  rwa [Int.toNat_of_nonneg h0] at this
def jJ (b : Int) : Bool := decide (65 ≤ b ∧ b ≤ 90 ∨ 97 ≤ b ∧ b ≤ 122)
def eb (b : Int) : Bool := decide (48 ≤ b ∧ b ≤ 57)
def bu (b : Int) : Bool := decide (48 ≤ b ∧ b ≤ 57 ∨ 65 ≤ b ∧ b ≤ 70 ∨ 97 ≤ b ∧ b ≤ 102)
def xv (b : Int) : Bool := decide (b = 45 ∨ b = 46 ∨ b = 95 ∨ b = 126)
def yJ (b : Int) : Bool := decide (b = 33 ∨ b = 36 ∨ 38 ≤ b ∧ b ≤ 44 ∨ b = 59 ∨ b = 61)
def zj (b : Int) : Bool := decide (b = 58 ∨ b = 47 ∨ b = 63 ∨ b = 35 ∨ b = 91 ∨ b = 93 ∨ b = 64)
def cls (b : Int) : Int := (if jJ b then 1 else 0) + (if eb b then 2 else 0) + (if xv b then 4 else 0) + (if yJ b then 8 else 0) + (if zj b then 16 else 0) + (if bu b then 32 else 0)
def nv (b : Int) : Bool := jJ b || eb b
def ln (b : Int) : Bool := jJ b || eb b || xv b || yJ b
def isc (b c : Int) : Bool := Go.bits .and .i64 (cls b) c != 0
theorem vv {b : Int} (h0 : 0 ≤ b) (h1 : b ≤ 255) : isc b 1 = jJ b :=
  b6 (p := fun b => isc b 1 = jJ b) (by decide +kernel) h0 h1
theorem qp {b : Int} (h0 : 0 ≤ b) (h1 : b ≤ 255) : isc b 2 = eb b :=
  b6 (p := fun b => isc b 2 = eb b) (by decide +kernel) h0 h1
theorem n9 {b : Int} (h0 : 0 ≤ b) (h1 : b ≤ 255) : isc b 3 = nv b :=
  b6 (p := fun b => isc b 3 = nv b) (by decide +kernel) h0 h1
theorem qq {b : Int} (h0 : 0 ≤ b) (h1 : b ≤ 255) : isc b 15 = ln b :=
  b6 (p := fun b => isc b 15 = ln b) (by decide +kernel) h0 h1
theorem xU {b : Int} (h0 : 0 ≤ b) (h1 : b ≤ 255) : isc b 32 = bu b :=
  b6 (p := fun b => isc b 32 = bu b) (by decide +kernel) h0 h1
theorem kY {b c : Int} : Go.bits .and .i64 (cls b) c = 0 ↔ isc b c = false := by unfold isc; simp
def hv (b : Int) : Int := if 48 ≤ b ∧ b ≤ 57 then b - 48 else if 65 ≤ b ∧ b ≤ 70 then b - 55 else if 97 ≤ b ∧ b ≤ 102 then b - 87 else -1
theorem ki (b : Int) : -1 ≤ hv b ∧ hv b ≤ 15 := by unfold hv; (repeat' split) <;> omega
theorem kr (b : Int) : (0 ≤ hv b) ↔ bu b = true := by
  unfold hv bu
  rw [decide_eq_true_iff]
  (repeat' split) <;> omega
theorem vo (b : Int) : (hv b < 0) ↔ bu b = false := by
  have h1 := kr b
  rw [← Bool.not_eq_true, ← h1]
  omega
theorem tV {b : Int} (h : bu b = true) : ln b = true := by
  unfold bu at h
  unfold ln jJ eb
  rw [decide_eq_true_iff] at h
  simp only [Bool.or_eq_true, decide_eq_true_iff]
  omega
def i8 (p : Int → Bool) : List Int → Int
  | [] => -1
  | b :: t => if p b then 0 else if i8 p t = -1 then -1 else i8 p t + 1
theorem mF (p : Int → Bool) (b : Int) (t : List Int) : i8 p (b :: t) = if p b then 0 else if i8 p t = -1 then -1 else i8 p t + 1 := rfl
theorem xN (p : Int → Bool) (l : List Int) : -1 ≤ i8 p l := by
  induction l with
  | nil => simp [i8]
  | cons b t ih => unfold i8; split <;> (try split) <;> omega
def bf (p : Int → Bool) : List Int → Nat
  | [] => 0
  | b :: t => if p b then bf p t + 1 else 0
theorem o5 (p : Int → Bool) (l : List Int) : bf p l ≤ l.length := by
  induction l with
  | nil => simp [bf]
  | cons b t ih => unfold bf; rw [List.length_cons]; split <;> omega
theorem vV {p : Int → Bool} {l : List Int} : bf p l = l.length ↔ ∀ b ∈ l, p b = true := by
  induction l with
  | nil => simp [bf]
  | cons b t ih =>
    unfold bf
    cases hb : p b
    · simp [hb]
    · simp [hb, ← ih]
theorem pA {p : Int → Bool} (l : List Int) : ∀ b ∈ l.take (bf p l), p b = true := by
  induction l with
  | nil => simp [bf]
  | cons b t ih =>
    unfold bf
    cases hb : p b
    · simp
    · simp only [if_true, List.take_succ_cons]
      intro c hc
      rcases List.mem_cons.1 hc with rfl | hc
      · exact hb
      · exact ih c hc
theorem uC {p : Int → Bool} {l : List Int} {b : Int} {t : List Int} (h : l.drop (bf p l) = b :: t) : p b = false := by
  induction l with
  | nil => simp [bf] at h
  | cons c r ih =>
    unfold bf at h
    cases hc : p c
    · rw [hc] at h
      simp at h
      rw [← h.1]; exact hc
    · rw [hc] at h
      simp only [if_true, List.drop_succ_cons] at h
      exact ih h
def shp (b : Int) : Int × Int × Int :=
  if b < 128 then (1, 0, 0) else if 194 ≤ b ∧ b ≤ 223 then (2, 128, 191) else if b = 224 then (3, 160, 191) else if b = 237 then (3, 128, 159)
  else if 225 ≤ b ∧ b ≤ 239 then (3, 128, 191) else if b = 240 then (4, 144, 191) else if b = 244 then (4, 128, 143) else if 241 ≤ b ∧ b ≤ 243 then (4, 128, 191) else (0, 0, 0)
def aU : Nat → Int → Int → List Int → Nat
  | 0, _, _, _ => 0
  | _ + 1, _, _, [] => 0
  | n + 1, lo, hi, c :: t => if lo ≤ c ∧ c ≤ hi then aU n 128 191 t + 1 else 0
def gn (r : Int) : List Int → Int
  | [] => r
  | c :: t => gn (r * 64 + (c - 128)) t
def cG (n b : Int) : Int := if n = 1 then b else if n = 2 then b - 192 else if n = 3 then b - 224 else b - 240
def dec : List Int → Int × Int × Bool
  | [] => (0, 0, false)
  | b :: t => if (shp b).1 = 0 then (0, 1, false)
    else if (aU ((shp b).1.toNat - 1) (shp b).2.1 (shp b).2.2 t : Int) + 1 < (shp b).1 then (0, (aU ((shp b).1.toNat - 1) (shp b).2.1 (shp b).2.2 t : Int) + 1, false)
    else (gn (cG (shp b).1 b) (t.take ((shp b).1.toNat - 1)), (shp b).1, true)
theorem dj (b : Int) (t : List Int) : dec (b :: t) = if (shp b).1 = 0 then (0, 1, false)
    else if (aU ((shp b).1.toNat - 1) (shp b).2.1 (shp b).2.2 t : Int) + 1 < (shp b).1 then (0, (aU ((shp b).1.toNat - 1) (shp b).2.1 (shp b).2.2 t : Int) + 1, false)
    else (gn (cG (shp b).1 b) (t.take ((shp b).1.toNat - 1)), (shp b).1, true) := rfl
theorem jH (b : Int) : 0 ≤ (shp b).1 ∧ (shp b).1 ≤ 4 := by
  unfold shp
  (repeat' split) <;> simp
theorem g0 {b : Int} (h : 2 ≤ (shp b).1) : 128 ≤ (shp b).2.1 ∧ (shp b).2.2 ≤ 191 := by
  revert h
  unfold shp
  (repeat' split) <;> simp
theorem o3 {b : Int} (h0 : 0 ≤ b) (h1 : b ≤ 255) (h : 1 ≤ (shp b).1) : 0 ≤ cG (shp b).1 b ∧ cG (shp b).1 b < 128 := by
  have := b6 (p := fun b => 1 ≤ (shp b).1 → 0 ≤ cG (shp b).1 b ∧ cG (shp b).1 b < 128) (by decide +kernel) h0 h1
  exact this h
theorem kg (n : Nat) (lo hi : Int) (l : List Int) : aU n lo hi l ≤ n ∧ aU n lo hi l ≤ l.length := by
  induction n generalizing lo hi l with
  | zero => simp [aU]
  | succ n ih =>
    cases l with
    | nil => simp [aU]
    | cons c t =>
      unfold aU
      have := ih 128 191 t
      rw [List.length_cons]
      split <;> omega
theorem lc (n : Nat) (lo hi : Int) (h0 : 128 ≤ lo) (h1 : hi ≤ 191) (l : List Int) : ∀ c ∈ l.take (aU n lo hi l), 128 ≤ c ∧ c ≤ 191 := by
  induction n generalizing lo hi l with
  | zero => simp [aU]
  | succ n ih =>
    cases l with
    | nil => simp [aU]
    | cons c t =>
      unfold aU
      split
      · rename_i h
        simp only [List.take_succ_cons]
        intro d hd
        rcases List.mem_cons.1 hd with rfl | hd
        · omega
        · exact ih 128 191 (by omega) (by omega) t d hd
      · simp
theorem ql (lo hi : Int) (l : List Int) : aU 0 lo hi l = 0 := by unfold aU; rfl
theorem pf (l : List Int) : 0 ≤ (dec l).2.1 ∧ (dec l).2.1 ≤ 4 ∧ (dec l).2.1 ≤ l.length := by
  cases l with
  | nil => simp [dec]
  | cons b t =>
    have h1 := jH b
    have h2 := kg ((shp b).1.toNat - 1) (shp b).2.1 (shp b).2.2 t
    rw [List.length_cons, dj]
    split
    · simp only; omega
    · split
      · simp only
        omega
      · simp only
        omega
theorem xJ {b : Int} {t : List Int} : 1 ≤ (dec (b :: t)).2.1 := by
  have h1 := jH b
  rw [dj]
  split
  · simp
  · split <;> simp only <;> omega
theorem kn {b : Int} (t : List Int) (h : b < 128) : dec (b :: t) = (b, 1, true) := by
  have : shp b = (1, 0, 0) := by unfold shp; rw [if_pos h]
  rw [dj, this]
  simp [aU, cG, gn]
theorem wt {b : Int} {t : List Int} (h : 128 ≤ b) (hb : b ≤ 255) (ok : (dec (b :: t)).2.2 = true) : 2 ≤ (dec (b :: t)).2.1 ∧ ∀ c ∈ (b :: t).take (dec (b :: t)).2.1.toNat, 128 ≤ c := by
  have h1 := jH b
  have h2 : (shp b).1 ≠ 1 := b6 (p := fun b => 128 ≤ b → (shp b).1 ≠ 1) (by decide +kernel) (by omega) hb h
  rw [dj] at ok ⊢
  by_cases e : (shp b).1 = 0
  · rw [if_pos e] at ok; cases ok
  · rw [if_neg e] at ok ⊢
    by_cases e2 : (aU ((shp b).1.toNat - 1) (shp b).2.1 (shp b).2.2 t : Int) + 1 < (shp b).1
    · rw [if_pos e2] at ok; cases ok
    · rw [if_neg e2]
      have h3 := kg ((shp b).1.toNat - 1) (shp b).2.1 (shp b).2.2 t
      have h4 := g0 (b := b) (by omega)
      have h5 := lc ((shp b).1.toNat - 1) (shp b).2.1 (shp b).2.2 h4.1 h4.2 t
      have e3 : (shp b).1.toNat = aU ((shp b).1.toNat - 1) (shp b).2.1 (shp b).2.2 t + 1 := by omega
      refine ⟨by simp only; omega, ?_⟩
      simp only
      rw [e3, List.take_succ_cons]
      intro c hc
      rcases List.mem_cons.1 hc with rfl | hc
      · exact h
      · exact (h5 c hc).1
theorem kW {l : List Int} (ok : (dec l).2.2 = true) : 1 ≤ (dec l).2.1 := by
  cases l with
  | nil => cases ok
  | cons b t => exact xJ
end Go.Proofs.YtpmflpeckoeooaaGreatDoor.M
namespace Go.Proofs.YtpmflpeckoeooaaGreatDoor.Y
open Go.RowKit Go.Proofs.YtpmflpeckoeooaaGreatDoor.X Go.Proofs.YtpmflpeckoeooaaGreatDoor.M Go.Proofs.YtpmflpeckoeooaaGreatDoorW.PrintWords Go.Proofs.YtpmflpeckoeooaaGreatDoorW.PrintLast Go.Proofs.YtpmflpeckoeooaaGreatDoorW.PrintMore
theorem xF {b : Int} (h0 : 0 ≤ b) (h1 : b ≤ 255) : Ev (fun k => fY k b) (cls b) :=
  lL (fun k => mj b k) (k := 12) (b6 (p := fun b => fY 12 b = some (cls b)) (by decide +kernel) h0 h1)
theorem t6 {b : Int} (c : Int) (h0 : 0 ≤ b) (h1 : b ≤ 255) : Ev (fun k => fq k b c) (isc b c) := ah (xF h0 h1) (az _)
theorem qd {b : Int} (h0 : 0 ≤ b) (h1 : b ≤ 255) : Ev (fun k => eD k b) (if hv b < 0 then (0, false) else (hv b, true)) :=
  lL (fun k => ij b k) (k := 14) (b6 (p := fun b => eD 14 b = some (if hv b < 0 then (0, false) else (hv b, true))) (by decide +kernel) h0 h1)
theorem nH {b : Int} (h0 : 0 ≤ b) (h1 : b ≤ 255) : Ev (fun k => bH k b) (cls b) :=
  lL (fun k => iv b k) (k := 60) (b6 (p := fun b => bH 60 b = some (cls b)) (by decide +kernel) h0 h1)
theorem lT {b : Int} (h0 : 0 ≤ b) (h1 : b ≤ 255) : Ev (fun k => bI k b) (hv b) :=
  lL (fun k => mz b k) (k := 20) (b6 (p := fun b => bI 20 b = some (hv b)) (by decide +kernel) h0 h1)
theorem br (s : ByteArray) (n : Nat) (h : n ≤ s.size) : (n = s.size ∧ (aa s).drop n = []) ∨ (n < s.size ∧ (aa s).drop n = bt s (n : Int) :: (aa s).drop (n + 1) ∧ 0 ≤ bt s (n : Int) ∧ bt s (n : Int) ≤ 255) := by
  rcases Nat.lt_or_ge n s.size with h1 | h1
  · right
    have hl : n < (aa s).length := by rw [af]; exact h1
    refine ⟨h1, ?_, (jx s n).1, (jx s n).2⟩
    rw [List.drop_eq_getElem_cons hl, km, List.getD_eq_getElem?_getD, List.getElem?_eq_getElem hl]
    rfl
  · left
    exact ⟨by omega, List.drop_of_length_le (by rw [af]; exact h1)⟩
theorem gS (s : ByteArray) : (s.size = 0 ∧ aa s = []) ∨ (0 < s.size ∧ aa s = bt s 0 :: (aa s).drop 1 ∧ 0 ≤ bt s 0 ∧ bt s 0 ≤ 255) := by
  have := br s 0 (by omega)
  rw [List.drop_zero] at this
  rcases this with ⟨h, e⟩ | h
  · exact .inl ⟨h.symm, e⟩
  · exact .inr h
theorem uf (s : ByteArray) (c : Int) (hs : s.size ≤ 140737488351232) : ∀ d n : Nat, n + d = s.size → Ev (fun k => eC k s c (s.size : Int) (n : Int)) ((n : Int) + bf (fun b => isc b c) ((aa s).drop n)) := by
  intro d
  induction d with
  | zero =>
    intro n hn
    refine Ev.step (fun k => rfl) ?_
    refine ae (by omega) ?_
    rw [List.drop_of_length_le (by rw [af]; omega)]
    have : ((n : Int) + ((bf (fun b => isc b c) [] : Nat) : Int)) = (s.size : Int) := by simp [bf]; omega
    rw [this]
    exact az _
  | succ d ih =>
    intro n hn
    rcases br s n (by omega) with ⟨h, _⟩ | ⟨h, e, b0, b1⟩
    · omega
    refine Ev.step (fun k => rfl) ?_
    refine ab (by omega) (ab (by omega) (ab (by omega) (ah (t6 c b0 b1) ?_)))
    rw [e]
    cases hb : isc (bt s n) c
    · refine ae (by simp) ?_
      simp only [bf, hb, Bool.false_eq_true, if_false]
      exact az _
    · refine ab rfl ?_
      rw [w64 (by omega) (by omega)]
      have := ih (n + 1) (by omega)
      simp only [bf, hb, if_true]
      have e2 : ((n : Int) + ((bf (fun b => isc b c) ((aa s).drop (n + 1)) + 1 : Nat) : Int)) = ((n + 1 : Nat) : Int) + (bf (fun b => isc b c) ((aa s).drop (n + 1)) : Int) := by omega
      rw [e2]
      exact this
theorem qt (s : ByteArray) (c : Int) (hs : s.size ≤ 140737488351232) : Ev (fun k => fi k s c) (bf (fun b => isc b c) (aa s) : Int) := by
  have := uf s c hs s.size 0 (by omega)
  unfold fi
  simpa using this
theorem ur (s : ByteArray) (c : Int) (hs : s.size ≤ 140737488351232) : ∀ d n : Nat, n + d = s.size → Ev (fun k => eH k s c (n : Int)) ((n : Int) + bf (fun b => isc b c) ((aa s).drop n)) := by
  intro d
  induction d with
  | zero =>
    intro n hn
    refine Ev.step (fun k => rfl) ?_
    refine ae (by omega) ?_
    rw [List.drop_of_length_le (by rw [af]; omega)]
    have : ((n : Int) + ((bf (fun b => isc b c) [] : Nat) : Int)) = (n : Int) := by simp [bf]
    rw [this]
    exact az _
  | succ d ih =>
    intro n hn
    rcases br s n (by omega) with ⟨h, _⟩ | ⟨h, e, b0, b1⟩
    · omega
    refine Ev.step (fun k => rfl) ?_
    refine ab (by omega) (ab (by omega) (ah (nH b0 b1) ?_))
    rw [e]
    cases hb : isc (bt s n) c
    · refine ab (kY.2 hb) ?_
      simp only [bf, hb, Bool.false_eq_true, if_false]
      exact az _
    · refine ae (fun h => by rw [kY.1 h] at hb; cases hb) ?_
      rw [w64 (by omega) (by omega)]
      have := ih (n + 1) (by omega)
      simp only [bf, hb, if_true]
      have e2 : ((n : Int) + ((bf (fun b => isc b c) ((aa s).drop (n + 1)) + 1 : Nat) : Int)) = ((n + 1 : Nat) : Int) + (bf (fun b => isc b c) ((aa s).drop (n + 1)) : Int) := by omega
      rw [e2]
      exact this
theorem vL (s : ByteArray) (c : Int) (hs : s.size ≤ 140737488351232) : Ev (fun k => gb k s c) (bf (fun b => isc b c) (aa s) : Int) := by
  have := ur s c hs s.size 0 (by omega)
  unfold gb
  simpa using this
theorem yX (c : Int) (s : ByteArray) (hs : s.size ≤ 140737488351232) : ∀ d n : Nat, n + d = s.size → Ev (fun k => cz k c s (n : Int)) (((aa s).drop n).contains c) := by
  intro d
  induction d with
  | zero =>
    intro n hn
    refine Ev.step (fun k => rfl) (ae (by omega) ?_)
    rw [List.drop_of_length_le (by rw [af]; omega)]
    exact az _
  | succ d ih =>
    intro n hn
    rcases br s n (by omega) with ⟨h, _⟩ | ⟨h, e, b0, b1⟩
    · omega
    refine Ev.step (fun k => rfl) (ab (by omega) (ab (by omega) ?_))
    rw [e, List.contains_cons]
    by_cases hb : bt s n = c
    · refine ab hb ?_
      rw [hb]
      simp only [beq_self_eq_true, Bool.true_or]
      exact az _
    · refine ae hb ?_
      rw [w64 (by omega) (by omega)]
      have : (c == bt s n) = false := by simpa using fun h => hb h.symm
      rw [this, Bool.false_or]
      exact ih (n + 1) (by omega)
theorem wF (c : Int) (s : ByteArray) (hs : s.size ≤ 140737488351232) : Ev (fun k => aQ k c s) ((aa s).contains c) := yX c s hs s.size 0 (by omega)
theorem xP (s t : ByteArray) (hs : s.size ≤ 140737488351232) (ht : t.size ≤ 140737488351232) (i : Nat) (hi : i < s.size) (r : Int) (next : Ev (fun k => d7 k s t ((i + 1 : Nat) : Int)) r) : ∀ d n : Nat, n + d = t.size →
    Ev (fun k => eB k s t (i : Int) (t.size : Int) (n : Int)) (if ((aa t).drop n).contains (bt s i) then (i : Int) else r) := by
  intro d
  induction d with
  | zero =>
    intro n hn
    refine Ev.step (fun k => rfl) (ae (by omega) ?_)
    rw [List.drop_of_length_le (by rw [af]; omega), w64 (by omega) (by omega)]
    exact next
  | succ d ih =>
    intro n hn
    rcases br t n (by omega) with ⟨h, _⟩ | ⟨h, e, b0, b1⟩
    · omega
    refine Ev.step (fun k => rfl) (ab (by omega) (ab (by omega) (ab (by omega) (ab (by omega) (ab (by omega) ?_)))))
    rw [e, List.contains_cons]
    by_cases hb : bt s i = bt t n
    · refine ab hb ?_
      have : (bt s (i : Int) == bt t (n : Int)) = true := by simpa using hb
      rw [this]
      exact az _
    · refine ae hb ?_
      rw [w64 (by omega) (by omega)]
      have : (bt s (i : Int) == bt t (n : Int)) = false := by simpa using hb
      rw [this, Bool.false_or]
      exact ih (n + 1) (by omega)
theorem xO (s t : ByteArray) (hs : s.size ≤ 140737488351232) (ht : t.size ≤ 140737488351232) : ∀ d n : Nat, n + d = s.size →
    Ev (fun k => d7 k s t (n : Int)) (let j := i8 (fun b => (aa t).contains b) ((aa s).drop n); if j = -1 then -1 else (n : Int) + j) := by
  intro d
  induction d with
  | zero =>
    intro n hn
    refine Ev.step (fun k => rfl) (ae (by omega) ?_)
    rw [List.drop_of_length_le (by rw [af]; omega)]
    exact az _
  | succ d ih =>
    intro n hn
    rcases br s n (by omega) with ⟨h, _⟩ | ⟨h, e, b0, b1⟩
    · omega
    refine Ev.step (fun k => rfl) (ab (by omega) ?_)
    have h1 := xP s t hs ht n h _ (ih (n + 1) (by omega)) t.size 0 (by omega)
    simp only [List.drop_zero] at h1
    rw [e]
    have hg := xN (fun b => (aa t).contains b) ((aa s).drop (n + 1))
    have key : (if (aa t).contains (bt s (n : Int)) = true then (n : Int) else (let j := i8 (fun b => (aa t).contains b) ((aa s).drop (n + 1)); if j = -1 then -1 else ((n + 1 : Nat) : Int) + j)) = (let j := i8 (fun b => (aa t).contains b) (bt s (n : Int) :: (aa s).drop (n + 1)); if j = -1 then -1 else (n : Int) + j) := by
      generalize hq : (fun b => (aa t).contains b) = q at *
      have hq2 : (aa t).contains (bt s (n : Int)) = q (bt s (n : Int)) := by rw [← hq]
      rw [hq2]
      by_cases hc : q (bt s (n : Int)) = true
      · have hz : i8 q (bt s (n : Int) :: (aa s).drop (n + 1)) = 0 := by rw [mF, if_pos hc]
        simp only [hz, if_pos hc]
        simp
      · by_cases hj : i8 q ((aa s).drop (n + 1)) = -1
        · have hz : i8 q (bt s (n : Int) :: (aa s).drop (n + 1)) = -1 := by rw [mF, if_neg hc, if_pos hj]
          simp only [hz, hj, if_neg hc, if_true]
        · have hz : i8 q (bt s (n : Int) :: (aa s).drop (n + 1)) = i8 q ((aa s).drop (n + 1)) + 1 := by
            rw [mF, if_neg hc, if_neg hj]
          simp only [hz, if_neg hc, if_neg hj]
          rw [if_neg (by omega)]
          omega
    rw [← key]
    exact h1
theorem u2 (s t : ByteArray) (n : Nat) (hn : n ≤ s.size) (hs : s.size ≤ 140737488351232) (ht : t.size ≤ 140737488351232) :
    Ev (fun k => dg k s (n : Int) t) (let j := i8 (fun b => (aa t).contains b) ((aa s).drop n); if j = -1 then -1 else (n : Int) + j) := by
  unfold dg
  have : mx (n : Int) 0 = (n : Int) := by unfold mx; rw [if_neg (by omega)]
  rw [this]
  exact xO s t hs ht (s.size - n) n (by omega)
end Go.Proofs.YtpmflpeckoeooaaGreatDoor.Y
