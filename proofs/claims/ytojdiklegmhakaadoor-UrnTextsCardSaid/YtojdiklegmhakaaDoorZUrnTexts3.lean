/- Texts that the law's proof needs, joined by a program of this session. -/
import Derived.Test.YtojdiklegmhakaaDoorZUrnTexts1
import Derived.Test.YtojdiklegmhakaaDoorZUrnTexts2
set_option maxHeartbeats 8000000
set_option maxRecDepth 100000
set_option linter.unusedSimpArgs false
set_option linter.unusedVariables false
namespace Go.Proofs.YtojdiklegmhakaaDoor.X
open Go.RowKit Go.Proofs.YtojdiklegmhakaaDoorW.PrintWords Go.Proofs.YtojdiklegmhakaaDoorW.PrintLast Go.Proofs.YtojdiklegmhakaaDoorW.PrintMore
attribute [local go_sem] di cR eu fH bY eW bv eN eP fB fC eo ep eO eQ
def e8 (k : Nat) (a0 : ByteArray) : Option (Bool × ByteArray × ByteArray × Bool × ByteArray) := (bZ k a0 64).bind fun Ac => (if Ac ≥ 0 then (if 0 ≤ Ac then (if Ac ≤ (a0.size : Int) then (if 0 ≤ (wrap64 (Ac + 1)) then (if (wrap64 (Ac + 1)) ≤ (a0.size : Int) then ((ey k (a0.extract ((wrap64 (Ac + 1)) : Int).toNat a0.size)).bind fun Aa => (if Aa.2.toList = ([] : List UInt8) then (some (true, a0.extract 0 (Ac : Int).toNat, Aa.1, false, (⟨#[]⟩ : ByteArray))) else (if 1 ≤ (Aa.2.size : Int) then (some (true, a0.extract 0 (Ac : Int).toNat, Aa.1, true, Aa.2.extract 1 Aa.2.size)) else (none)))) else (none)) else (none)) else (none)) else (none)) else ((ey k a0).bind fun Ab => (if Ab.2.toList = ([] : List UInt8) then (some (false, (⟨#[]⟩ : ByteArray), Ab.1, false, (⟨#[]⟩ : ByteArray))) else (if 1 ≤ (Ab.2.size : Int) then (some (false, (⟨#[]⟩ : ByteArray), Ab.1, true, Ab.2.extract 1 Ab.2.size)) else (none)))))
theorem ko : ∀ a0 k, LeO (e8 k a0) (e8 (k + 1) a0) := by
  intro a0 k
  have m0 := @kp; have m1 := @gS
  unfold e8
  exact xmo
theorem iI (k : Nat) (a0 : ByteArray) (r1 : Bool) (r2 : ByteArray) (r3 : ByteArray) (r4 : Bool) (r5 : ByteArray) (w : World) (h : e8 k a0 = some (r1, r2, r3, r4, r5)) :
    Calls Tryd.prog 63 #[.string a0] w fun e w' => e = .returned (.agg #[.bool r1, .string r2, .string r3, .bool r4, .string r5]) ∧ Below w.heap.size w w' := by
 have hu77 := Tryd.underlying77
 have HB := Zz.mk (Below.refl w.heap.size w)
 have H := h
 clear h
 unfold e8 at H
 replace H := xbd H
 obtain ⟨As, A2, H⟩ := H
 try dsimp only at H
 refine xid H ?_ ?_ <;> clear H <;> intro c3 H
 {
 have AI := xdt c3
 clear c3
 refine xin H ?_; clear H; intro c4 H
 obtain ⟨A8, A9⟩ := xcp c4
 clear c4
 refine xin H ?_; clear H; intro c5 H
 obtain ⟨Ba, Bb⟩ := xcp c5
 clear c5
 obtain ⟨Ar, Aj⟩ : ∃ j_ : ByteArray, (a0.extract 0 (As : Int).toNat) = j_ := ⟨_, rfl⟩
 try (have At := Aj; simp only [Int.toNat_natCast] at At)
 first | rw [Aj] at H | simp only [Aj] at H | skip
 (try rw [Aj] at A2)
 obtain ⟨AL, Ak⟩ : ∃ j_ : Int, (wrap64 (As + 1)) = j_ := ⟨_, rfl⟩
 first | rw [Ak] at H | simp only [Ak] at H | skip
 (try rw [Ak] at A2)
 have AM : (IntKind.i64.wrap (As + 1)) = AL := (an _).trans Ak
 refine xin H ?_; clear H; intro c8 H
 obtain ⟨Bc, Bd⟩ := xcp c8
 clear c8
 refine xin H ?_; clear H; intro c9 H
 obtain ⟨Be, Bf⟩ := xcp c9
 clear c9
 obtain ⟨Bg, Ag⟩ : ∃ j_ : ByteArray, (a0.extract ((AL) : Int).toNat a0.size) = j_ := ⟨_, rfl⟩
 first | rw [Ag] at H | simp only [Ag] at H | skip
 (try rw [Ag] at A2)
 replace H := xbd H
 obtain ⟨⟨Al, Ap⟩, A11, H⟩ := H
 try dsimp only at H
 refine xid H ?_ ?_ <;> clear H <;> intro c12 H
 {
 obtain ⟨Au, Av⟩ := xqe c12
 (try (have Aw : Ap.toList.isEmpty = true := by simpa using c12))
 clear c12
 simp only [Option.some.injEq, Prod.mk.injEq] at H
 obtain ⟨rfl, rfl, rfl, rfl, rfl⟩ := H
 go_enter Tryd.func63, Tryd.ntmps63
 try go_wp2_with (first | ((with_reducible refine af (N := 2) rfl ?_); refine xew 2 ?_; intro Af w13 Ab An hb hg; replace HB := xst hb; clear hb hg) | ((with_reducible refine af (N := 3) rfl ?_); refine xew 3 ?_; intro Ae w14 Aa Ao hb hg; have Ac := xlt (g := Af) hg; have Ad := xgt (g := Af) hg; replace Ab := xbq Af hb; replace HB := xst hb; clear hb hg) | ((with_reducible refine xgc (f := 69) rfl ?_); refine xca 6 Tryd.func69 (cD (w := _) (h := A2.out)) ?_; rintro w' ⟨nd, rfl⟩; (try (rw [aG w14]; generalize hq_ : World.drewN w14 _ = w14; have n0_ := xbr Af hq_; have n1_ := xbr Ae hq_; have n2_ : Zz (Below w.heap.size w w14) := ⟨by rw [← hq_]; exact xbl⟩; clear Ab Aa HB hq_; have Ab := n0_; have Aa := n1_; have HB := n2_; clear n0_ n1_ n2_))))
 replace Ab := Zz.mk (bg Ab.out)
 replace Aa := Zz.mk (bg Aa.out)
 replace HB := Zz.mk (aw HB.out)
 refine xsr 12 (S := fun _ => True) [] trivial (fun hHeld => ?_)
 generalize w14.drew = w15 at Ab Aa HB hHeld ⊢
 refine xpu 0 9 ?_
 refine xpu 1 10 ?_
 refine xpu 2 11 ?_
 refine xpu 3 12 ?_
 refine xpu 4 13 ?_
 refine xpu 5 14 ?_
 refine xpu 6 15 ?_
 refine xpu 7 16 ?_
 have hs16 : w15.cell? ⟨Ae, 0, none⟩ = some (.bool false) := (ab Aa.out 0).trans rfl
 have AN := xf Aa 0
 have AA := Ac.out
 have hms16_0 := Ad.out
 refine xos 8 ⟨trivial, fun hHeld => ?_⟩
 refine xpu 9 17 ?_
 have hs17 : w15.cell? ⟨Ae, 1, none⟩ = some (.string (⟨#[]⟩ : ByteArray)) := (ab Aa.out 1).trans rfl
 have AO := xf Aa 1
 have AB := Ac.out
 have hms17_0 := Ad.out
 refine xos 10 ⟨trivial, fun hHeld => ?_⟩
 refine xpu 11 0 ?_
 refine xdn ?_
 try go_wp2_with (first | ((with_reducible refine xgc (f := 70) rfl ?_); refine xca 20 Tryd.func70 (fk (w := _) (h := A11.out)) ?_ (hargs := by (try simp only [xm1, xm2, xm3]); first | done | (simp only [Ag]; rfl) | rfl); rintro w' ⟨nd, rfl⟩; have AP := Ad.out; have AQ := Ac.out; have Bh := xz5 Aa.out; have Bi := xz5 Ab.out))
 refine bodyPost_ret (results_cell_row rfl _ _ Af 77 #[.bool true, .string Ar, .string Al, .bool false, .string (⟨#[]⟩ : ByteArray)] (0, 0) _ rfl xbk Tryd.underlying77 rfl (by kernel_rfl)) rfl ?_
 exact ⟨by first | exact xrd | (simp only [← Aj, ← Ak, ← Ag]; exact xrd) | exact xre, xbl⟩
 }
 obtain ⟨Au, Av⟩ := xqn c12
 (try (have Aw : Ap.toList.isEmpty = false := by simpa using c12))
 refine xin H ?_; clear H; intro c21 H
 obtain ⟨AR, AS⟩ := xcp c21
 clear c21
 obtain ⟨AJ, Ah⟩ : ∃ j_ : ByteArray, (Ap.extract 1 Ap.size) = j_ := ⟨_, rfl⟩
 first | rw [Ah] at H | simp only [Ah] at H | skip
 (try rw [Ah] at A2)
 (try rw [Ah] at A11)
 simp only [Option.some.injEq, Prod.mk.injEq] at H
 obtain ⟨rfl, rfl, rfl, rfl, rfl⟩ := H
 go_enter Tryd.func63, Tryd.ntmps63
 try go_wp2_with (first | ((with_reducible refine af (N := 2) rfl ?_); refine xew 2 ?_; intro Af w23 Ab An hb hg; replace HB := xst hb; clear hb hg) | ((with_reducible refine af (N := 3) rfl ?_); refine xew 3 ?_; intro Ae w24 Aa Ao hb hg; have Ac := xlt (g := Af) hg; have Ad := xgt (g := Af) hg; replace Ab := xbq Af hb; replace HB := xst hb; clear hb hg) | ((with_reducible refine xgc (f := 69) rfl ?_); refine xca 6 Tryd.func69 (cD (w := _) (h := A2.out)) ?_; rintro w' ⟨nd, rfl⟩; (try (rw [aG w24]; generalize hq_ : World.drewN w24 _ = w24; have n0_ := xbr Af hq_; have n1_ := xbr Ae hq_; have n2_ : Zz (Below w.heap.size w w24) := ⟨by rw [← hq_]; exact xbl⟩; clear Ab Aa HB hq_; have Ab := n0_; have Aa := n1_; have HB := n2_; clear n0_ n1_ n2_))))
 replace Ab := Zz.mk (bg Ab.out)
 replace Aa := Zz.mk (bg Aa.out)
 replace HB := Zz.mk (aw HB.out)
 refine xsr 12 (S := fun _ => True) [] trivial (fun hHeld => ?_)
 generalize w24.drew = w25 at Ab Aa HB hHeld ⊢
 refine xpu 0 9 ?_
 refine xpu 1 10 ?_
 refine xpu 2 11 ?_
 refine xpu 3 12 ?_
 refine xpu 4 13 ?_
 refine xpu 5 14 ?_
 refine xpu 6 15 ?_
 refine xpu 7 16 ?_
 have hs26 : w25.cell? ⟨Ae, 0, none⟩ = some (.bool false) := (ab Aa.out 0).trans rfl
 have AT := xf Aa 0
 have AC := Ac.out
 have hms26_0 := Ad.out
 refine xos 8 ⟨trivial, fun hHeld => ?_⟩
 refine xpu 9 17 ?_
 have hs27 : w25.cell? ⟨Ae, 1, none⟩ = some (.string (⟨#[]⟩ : ByteArray)) := (ab Aa.out 1).trans rfl
 have AU := xf Aa 1
 have AD := Ac.out
 have hms27_0 := Ad.out
 refine xos 10 ⟨trivial, fun hHeld => ?_⟩
 refine xpu 11 0 ?_
 refine xdn ?_
 try go_wp2_with (first | ((with_reducible refine xgc (f := 70) rfl ?_); refine xca 20 Tryd.func70 (fk (w := _) (h := A11.out)) ?_ (hargs := by (try simp only [xm1, xm2, xm3]); first | done | (simp only [Ag]; rfl) | rfl); rintro w' ⟨nd, rfl⟩; have AV := Ad.out; have AW := Ac.out; have Bj := xz5 Aa.out))
 have n0_ : Zz ((((w25.setCell ⟨Ae, 0, none⟩ (.bool true)).setCell ⟨Ae, 1, none⟩ (.string Ar)).setCell ⟨Ae, 2, none⟩ (.string Al)).heap[Af]? = some (.cells #[.bool false, .string (⟨#[]⟩ : ByteArray), .string (⟨#[]⟩ : ByteArray), .bool false, .string (⟨#[]⟩ : ByteArray)] 77 (0, 0))) := ⟨xbK⟩
 have n1_ : Zz ((((w25.setCell ⟨Ae, 0, none⟩ (.bool true)).setCell ⟨Ae, 1, none⟩ (.string Ar)).setCell ⟨Ae, 2, none⟩ (.string Al)).heap[Ae]? = some (.cells #[.bool true, .string Ar, .string Al, .bool false, .string (⟨#[]⟩ : ByteArray)] 77 (0, 0))) := ⟨xbK⟩
 have n2_ : Zz (Below w.heap.size w (((w25.setCell ⟨Ae, 0, none⟩ (.bool true)).setCell ⟨Ae, 1, none⟩ (.string Ar)).setCell ⟨Ae, 2, none⟩ (.string Al))) := ⟨xbl⟩
 (try clear Ab)
 (try clear Aa)
 (try clear HB)
 try simp only [Aj]
 try (have hx_ := Aj; simp only [Int.toNat_natCast] at hx_; simp only [hx_]; clear hx_)
 try simp only [Ak]
 try (have hx_ := Ak; simp only [Int.toNat_natCast] at hx_; simp only [hx_]; clear hx_)
 try simp only [Ag]
 try (have hx_ := Ag; simp only [Int.toNat_natCast] at hx_; simp only [hx_]; clear hx_)
 try simp only [Ah]
 try (have hx_ := Ah; simp only [Int.toNat_natCast] at hx_; simp only [hx_]; clear hx_)
 try simp only [show ∀ (w_ : World) (n_ : Nat) (a_ : Addr) (v_ : Value), (w_.drewN n_).setCell a_ v_ = (w_.setCell a_ v_).drewN n_ from fun _ _ _ _ => rfl]
 generalize (((w25.setCell ⟨Ae, 0, none⟩ (.bool true)).setCell ⟨Ae, 1, none⟩ (.string Ar)).setCell ⟨Ae, 2, none⟩ (.string Al)) = w30 at n0_ n1_ n2_ ⊢
 have Ab := n0_
 have Aa := n1_
 have HB := n2_
 clear n0_ n1_ n2_
 (try (rw [aG w30]; generalize hq_ : World.drewN w30 _ = w30; have n0_ : Zz (w30.heap[Af]? = some (.cells #[.bool false, .string (⟨#[]⟩ : ByteArray), .string (⟨#[]⟩ : ByteArray), .bool false, .string (⟨#[]⟩ : ByteArray)] 77 (0, 0))) := ⟨by rw [← hq_]; exact xbk⟩; have n1_ : Zz (w30.heap[Ae]? = some (.cells #[.bool true, .string Ar, .string Al, .bool false, .string (⟨#[]⟩ : ByteArray)] 77 (0, 0))) := ⟨by rw [← hq_]; exact xbk⟩; have n2_ : Zz (Below w.heap.size w w30) := ⟨by rw [← hq_]; exact xbl⟩; clear Ab Aa HB hq_; have Ab := n0_; have Aa := n1_; have HB := n2_; clear n0_ n1_ n2_))
 replace Ab := Zz.mk (bg Ab.out)
 replace Aa := Zz.mk (bg Aa.out)
 replace HB := Zz.mk (aw HB.out)
 refine kc (n := 6) (S := fun w' => True) (ds := []) #[false, false, false, false, false, false] (by kernel_rfl) rfl rfl trivial (fun hHeld => ?_)
 generalize w30.drew = w31 at Ab Aa HB hHeld ⊢
 refine fD (i := 0) (N := some 26) (v := ?_) (a' := ?_) #[true, false, false, false, false, false] rfl rfl (by kernel_rfl) (fun _ _ _ h => h) (Or.inl ⟨by rfl, ?_⟩) ?_ ?_
 rotate_left
 {
 intro w'
 go_simp
 with_reducible rfl
 }
 rotate_left
 {
 simp only [Act.put, xl1, xl2, xl3, an, au]
 rfl
 }
 refine fD (i := 1) (N := some 27) (v := ?_) (a' := ?_) #[true, true, false, false, false, false] rfl rfl (by kernel_rfl) (fun _ _ _ h => h) (Or.inl ⟨by rfl, ?_⟩) ?_ ?_
 rotate_left
 {
 intro w'
 go_simp
 with_reducible rfl
 }
 rotate_left
 {
 simp only [Act.put, xl1, xl2, xl3, an, au]
 rfl
 }
 refine fD (i := 2) (N := some 28) (v := ?_) (a' := ?_) #[true, true, true, false, false, false] rfl rfl (by kernel_rfl) (fun _ _ _ h => h) (Or.inl ⟨by rfl, ?_⟩) ?_ ?_
 rotate_left
 {
 intro w'
 go_simp
 with_reducible rfl
 }
 rotate_left
 {
 simp only [Act.put, xl1, xl2, xl3, an, au]
 rfl
 }
 refine fv (i := 3) (N := none) #[true, true, true, true, false, false] rfl rfl (by kernel_rfl) (by decide) (fun K hK => ?_)
 have hs32 : w31.cell? ⟨Ae, 3, none⟩ = some (.bool false) := (ab Aa.out 3).trans rfl
 have AX := xf Aa 3
 have AE := Ac.out
 have hms32_0 := Ad.out
 refine fU (w1 := ?_) (by rfl) rfl ?_ ?_
 rotate_left
 {
 go_simp
 rfl
 }
 refine hK.out _ _ trivial (fun hHeld => ?_)
 clear hK K
 refine fD (i := 4) (N := some 29) (v := ?_) (a' := ?_) #[true, true, true, true, true, false] rfl rfl (by kernel_rfl) (fun _ _ _ h => h) (Or.inl ⟨by rfl, ?_⟩) ?_ ?_
 rotate_left
 {
 intro w'
 go_simp
 with_reducible rfl
 }
 rotate_left
 {
 simp only [Act.put, xl1, xl2, xl3, an, au]
 rfl
 }
 refine fv (i := 5) (N := none) #[true, true, true, true, true, true] rfl rfl (by kernel_rfl) (by decide) (fun K hK => ?_)
 have hs33 : w31.cell? ⟨Ae, 4, none⟩ = some (.string (⟨#[]⟩ : ByteArray)) := (ab Aa.out 4).trans rfl
 have AY := xf Aa 4
 have AF := Ac.out
 have hms33_0 := Ad.out
 refine fU (w1 := ?_) (by rfl) rfl ?_ ?_
 rotate_left
 {
 go_simp
 rfl
 }
 refine hK.out _ _ trivial (fun hHeld => ?_)
 clear hK K
 refine kJ (by kernel_rfl) ?_
 have Bk := xz5 Aa.out
 have Bl := xz5 Ab.out
 try go_wp2
 refine bodyPost_ret (results_cell_row rfl _ _ Af 77 #[.bool true, .string Ar, .string Al, .bool true, .string AJ] (0, 0) _ rfl xbk Tryd.underlying77 rfl (by kernel_rfl)) rfl ?_
 exact ⟨by first | exact xrd | (simp only [← Aj, ← Ak, ← Ag, ← Ah]; exact xrd) | exact xre, xbl⟩
 }
 have AI := xdf c3
 clear c3
 replace H := xbd H
 obtain ⟨⟨Am, Aq⟩, A36, H⟩ := H
 try dsimp only at H
 refine xid H ?_ ?_ <;> clear H <;> intro c37 H
 {
 obtain ⟨Ax, Ay⟩ := xqe c37
 (try (have Az : Aq.toList.isEmpty = true := by simpa using c37))
 clear c37
 simp only [Option.some.injEq, Prod.mk.injEq] at H
 obtain ⟨rfl, rfl, rfl, rfl, rfl⟩ := H
 go_enter Tryd.func63, Tryd.ntmps63
 go_wp2_with (first | ((with_reducible refine af (N := 2) rfl ?_); refine xew 2 ?_; intro Af w38 Ab An hb hg; replace HB := xst hb; clear hb hg) | ((with_reducible refine af (N := 3) rfl ?_); refine xew 3 ?_; intro Ae w39 Aa Ao hb hg; have Ac := xlt (g := Af) hg; have Ad := xgt (g := Af) hg; replace Ab := xbq Af hb; replace HB := xst hb; clear hb hg) | ((with_reducible refine xgc (f := 69) rfl ?_); refine xca 6 Tryd.func69 (cD (w := _) (h := A2.out)) ?_; rintro w' ⟨nd, rfl⟩; (try (rw [aG w39]; generalize hq_ : World.drewN w39 _ = w39; have n0_ := xbr Af hq_; have n1_ := xbr Ae hq_; have n2_ : Zz (Below w.heap.size w w39) := ⟨by rw [← hq_]; exact xbl⟩; clear Ab Aa HB hq_; have Ab := n0_; have Aa := n1_; have HB := n2_; clear n0_ n1_ n2_))) | ((with_reducible refine xgc (f := 70) rfl ?_); refine xca 20 Tryd.func70 (fk (w := _) (h := A36.out)) ?_; rintro w' ⟨nd, rfl⟩; (try (rw [aG w39]; generalize hq_ : World.drewN w39 _ = w39; have n0_ := xbr Af hq_; have n1_ := xbr Ae hq_; have n2_ : Zz (Below w.heap.size w w39) := ⟨by rw [← hq_]; exact xbl⟩; clear Ab Aa HB hq_; have Ab := n0_; have Aa := n1_; have HB := n2_; clear n0_ n1_ n2_)); have AZ := Ad.out; have A0 := Ac.out; have Bm := xz5 Aa.out; have Bn := xz5 Ab.out))
 refine bodyPost_ret (results_cell_row rfl _ _ Af 77 #[.bool false, .string (⟨#[]⟩ : ByteArray), .string Am, .bool false, .string (⟨#[]⟩ : ByteArray)] (0, 0) _ rfl xbk Tryd.underlying77 rfl (by kernel_rfl)) rfl ?_
 exact ⟨xre, xbl⟩
 }
 obtain ⟨Ax, Ay⟩ := xqn c37
 (try (have Az : Aq.toList.isEmpty = false := by simpa using c37))
 refine xin H ?_; clear H; intro c43 H
 obtain ⟨A1, A3⟩ := xcp c43
 clear c43
 obtain ⟨AK, Ai⟩ : ∃ j_ : ByteArray, (Aq.extract 1 Aq.size) = j_ := ⟨_, rfl⟩
 first | rw [Ai] at H | simp only [Ai] at H | skip
 (try rw [Ai] at A2)
 (try rw [Ai] at A36)
 simp only [Option.some.injEq, Prod.mk.injEq] at H
 obtain ⟨rfl, rfl, rfl, rfl, rfl⟩ := H
 go_enter Tryd.func63, Tryd.ntmps63
 try go_wp2_with (first | ((with_reducible refine af (N := 2) rfl ?_); refine xew 2 ?_; intro Af w45 Ab An hb hg; replace HB := xst hb; clear hb hg) | ((with_reducible refine af (N := 3) rfl ?_); refine xew 3 ?_; intro Ae w46 Aa Ao hb hg; have Ac := xlt (g := Af) hg; have Ad := xgt (g := Af) hg; replace Ab := xbq Af hb; replace HB := xst hb; clear hb hg) | ((with_reducible refine xgc (f := 69) rfl ?_); refine xca 6 Tryd.func69 (cD (w := _) (h := A2.out)) ?_; rintro w' ⟨nd, rfl⟩; (try (rw [aG w46]; generalize hq_ : World.drewN w46 _ = w46; have n0_ := xbr Af hq_; have n1_ := xbr Ae hq_; have n2_ : Zz (Below w.heap.size w w46) := ⟨by rw [← hq_]; exact xbl⟩; clear Ab Aa HB hq_; have Ab := n0_; have Aa := n1_; have HB := n2_; clear n0_ n1_ n2_))) | ((with_reducible refine xgc (f := 70) rfl ?_); refine xca 20 Tryd.func70 (fk (w := _) (h := A36.out)) ?_; rintro w' ⟨nd, rfl⟩; (try (rw [aG w46]; generalize hq_ : World.drewN w46 _ = w46; have n0_ := xbr Af hq_; have n1_ := xbr Ae hq_; have n2_ : Zz (Below w.heap.size w w46) := ⟨by rw [← hq_]; exact xbl⟩; clear Ab Aa HB hq_; have Ab := n0_; have Aa := n1_; have HB := n2_; clear n0_ n1_ n2_)); have A4 := Ad.out; have A5 := Ac.out; have Bo := xz5 Aa.out))
 have n0_ : Zz ((w46.setCell ⟨Ae, 2, none⟩ (.string Am)).heap[Af]? = some (.cells #[.bool false, .string (⟨#[]⟩ : ByteArray), .string (⟨#[]⟩ : ByteArray), .bool false, .string (⟨#[]⟩ : ByteArray)] 77 (0, 0))) := ⟨xbK⟩
 have n1_ : Zz ((w46.setCell ⟨Ae, 2, none⟩ (.string Am)).heap[Ae]? = some (.cells #[.bool false, .string (⟨#[]⟩ : ByteArray), .string Am, .bool false, .string (⟨#[]⟩ : ByteArray)] 77 (0, 0))) := ⟨xbK⟩
 have n2_ : Zz (Below w.heap.size w (w46.setCell ⟨Ae, 2, none⟩ (.string Am))) := ⟨xbl⟩
 (try clear Ab)
 (try clear Aa)
 (try clear HB)
 try simp only [Ai]
 try (have hx_ := Ai; simp only [Int.toNat_natCast] at hx_; simp only [hx_]; clear hx_)
 try simp only [show ∀ (w_ : World) (n_ : Nat) (a_ : Addr) (v_ : Value), (w_.drewN n_).setCell a_ v_ = (w_.setCell a_ v_).drewN n_ from fun _ _ _ _ => rfl]
 generalize (w46.setCell ⟨Ae, 2, none⟩ (.string Am)) = w49 at n0_ n1_ n2_ ⊢
 have Ab := n0_
 have Aa := n1_
 have HB := n2_
 clear n0_ n1_ n2_
 replace Ab := Zz.mk (bg Ab.out)
 replace Aa := Zz.mk (bg Aa.out)
 replace HB := Zz.mk (aw HB.out)
 refine kc (n := 6) (S := fun w' => True) (ds := []) #[false, false, false, false, false, false] (by kernel_rfl) rfl rfl trivial (fun hHeld => ?_)
 generalize w49.drew = w50 at Ab Aa HB hHeld ⊢
 refine fD (i := 0) (N := some 26) (v := ?_) (a' := ?_) #[true, false, false, false, false, false] rfl rfl (by kernel_rfl) (fun _ _ _ h => h) (Or.inl ⟨by rfl, ?_⟩) ?_ ?_
 rotate_left
 {
 intro w'
 go_simp
 with_reducible rfl
 }
 rotate_left
 {
 simp only [Act.put, xl1, xl2, xl3, an, au]
 rfl
 }
 refine fD (i := 1) (N := some 27) (v := ?_) (a' := ?_) #[true, true, false, false, false, false] rfl rfl (by kernel_rfl) (fun _ _ _ h => h) (Or.inl ⟨by rfl, ?_⟩) ?_ ?_
 rotate_left
 {
 intro w'
 go_simp
 with_reducible rfl
 }
 rotate_left
 {
 simp only [Act.put, xl1, xl2, xl3, an, au]
 rfl
 }
 refine fD (i := 2) (N := some 28) (v := ?_) (a' := ?_) #[true, true, true, false, false, false] rfl rfl (by kernel_rfl) (fun _ _ _ h => h) (Or.inl ⟨by rfl, ?_⟩) ?_ ?_
 rotate_left
 {
 intro w'
 go_simp
 with_reducible rfl
 }
 rotate_left
 {
 simp only [Act.put, xl1, xl2, xl3, an, au]
 rfl
 }
 refine fv (i := 3) (N := none) #[true, true, true, true, false, false] rfl rfl (by kernel_rfl) (by decide) (fun K hK => ?_)
 have hs51 : w50.cell? ⟨Ae, 3, none⟩ = some (.bool false) := (ab Aa.out 3).trans rfl
 have A6 := xf Aa 3
 have AG := Ac.out
 have hms51_0 := Ad.out
 refine fU (w1 := ?_) (by rfl) rfl ?_ ?_
 rotate_left
 {
 go_simp
 rfl
 }
 refine hK.out _ _ trivial (fun hHeld => ?_)
 clear hK K
 refine fD (i := 4) (N := some 29) (v := ?_) (a' := ?_) #[true, true, true, true, true, false] rfl rfl (by kernel_rfl) (fun _ _ _ h => h) (Or.inl ⟨by rfl, ?_⟩) ?_ ?_
 rotate_left
 {
 intro w'
 go_simp
 with_reducible rfl
 }
 rotate_left
 {
 simp only [Act.put, xl1, xl2, xl3, an, au]
 rfl
 }
 refine fv (i := 5) (N := none) #[true, true, true, true, true, true] rfl rfl (by kernel_rfl) (by decide) (fun K hK => ?_)
 have hs52 : w50.cell? ⟨Ae, 4, none⟩ = some (.string (⟨#[]⟩ : ByteArray)) := (ab Aa.out 4).trans rfl
 have A7 := xf Aa 4
 have AH := Ac.out
 have hms52_0 := Ad.out
 refine fU (w1 := ?_) (by rfl) rfl ?_ ?_
 rotate_left
 {
 go_simp
 rfl
 }
 refine hK.out _ _ trivial (fun hHeld => ?_)
 clear hK K
 refine kJ (by kernel_rfl) ?_
 have Bp := xz5 Aa.out
 have Bq := xz5 Ab.out
 try go_wp2
 refine bodyPost_ret (results_cell_row rfl _ _ Af 77 #[.bool false, .string (⟨#[]⟩ : ByteArray), .string Am, .bool true, .string AK] (0, 0) _ rfl xbk Tryd.underlying77 rfl (by kernel_rfl)) rfl ?_
 exact ⟨by first | exact xrd | (simp only [← Ai]; exact xrd) | exact xre, xbl⟩
def dy (a0 : Int) : Option (Int) := if a0 ≥ 65 then (if a0 ≤ 90 then (some (Go.bits .or .u8 a0 32)) else (some a0)) else (some a0)
theorem aV (a0 : Int) (r : Int) (w : World) (h : dy a0 = some r) :
    Calls Tryd.prog 20 #[.int .u8 a0] w fun e w' => e = .returned (.int .u8 r) ∧ Drawn0 w w' := by
 have H := h
 clear h
 unfold dy at H
 refine xid H ?_ ?_ <;> clear H <;> intro c2 H
 {
 have c2b0 := xdt c2
 clear c2
 refine xid H ?_ ?_ <;> clear H <;> intro c3 H
 {
 have c3b0 := xdt c3
 clear c3
 obtain rfl := Option.some.inj H
 go_enter Tryd.func20, Tryd.ntmps20
 go_wp2
 go_ret
 exact ⟨xrr, xdr⟩
 }
 have c3b0 := xdf c3
 clear c3
 obtain rfl := Option.some.inj H
 go_enter Tryd.func20, Tryd.ntmps20
 go_wp2
 go_ret
 exact ⟨xrr, xdr⟩
 }
 have c2b0 := xdf c2
 clear c2
 obtain rfl := Option.some.inj H
 go_enter Tryd.func20, Tryd.ntmps20
 go_wp2
 go_ret
 exact ⟨xrr, xdr⟩
def cz : Nat → Int → Bool → Option (Int × Bool)
  | 0, _, _ => none
  | k + 1, x0, x4 => if x4 = true then (some ((x0 - 48) % 256, true)) else ((cM k x0 32).bind fun t131 => (if t131 = true then ((dy x0).bind fun t132 => (some (((t132 - 97) % 256) + 10, true))) else (some (0, false))))
def cu (k : Nat) (a0 : Int) : Option (Int × Bool) := if a0 ≥ 48 then (cz k a0 (decide (a0 ≤ 57))) else (cz k a0 false)
theorem gN : ∀ k, (∀ y0 y1, LeO (cz k y0 y1) (cz (k + 1) y0 y1))
  | 0 => fun _ _ r h => by simp [cz] at h
  | k + 1 => by
    have ih0 := gN k
    have m0 := @cd
    · intro y0 y1
      unfold cz
      exact xmo
theorem d5 : ∀ a0 k, LeO (cu k a0) (cu (k + 1) a0) := by
  intro a0 k
  have ih0 := gN k
  have m0 := @cd
  unfold cu
  exact xmo
theorem cj (k : Nat) (a0 : Int) (r1 : Int) (r2 : Bool) (w : World) (h : cu k a0 = some (r1, r2)) :
    Calls Tryd.prog 61 #[.int .u8 a0] w fun e w' => e = .returned (.tuple #[.int .i64 r1, .bool r2]) ∧ Drawn0 w w' := by
 have H := h
 clear h
 unfold cu at H
 have Ac := Zz.mk H
 clear H
 go_enter Tryd.func61, Tryd.ntmps61
 go_upto_region 1 with (fail)
 go_cut [4] (fun v4 wc => ∃ kq Ab, v4 = .bool Ab ∧ Zz (cz kq a0 Ab = some (r1, r2)) ∧ Zz (kq ≤ k) ∧ Drawn0 w wc)
 case first => (
 have H := Ac.out
 clear Ac
 refine xid H ?_ ?_ <;> clear H <;> intro c3 H
 {
 have Aa := xdt c3
 clear c3
 (first | rw [Aa] | (simp only [an, au]; rw [Aa]) | (rw [Ad]; (try simp only [Bool.not_false, Bool.not_true])) | (rw [Ae]; (try simp only [Bool.not_false, Bool.not_true])) | rw [Af] | skip)
 replace H := xa H
 go_wp2
 go_meet
 case rel => exact ⟨_, (decide (a0 ≤ 57)), xrr, H, ⟨xom⟩, xdr⟩
 }
 have Aa := xdf c3
 clear c3
 (first | rw [Aa] | (simp only [an, au]; rw [Aa]) | (rw [Ad]; (try simp only [Bool.not_false, Bool.not_true])) | (rw [Ae]; (try simp only [Bool.not_false, Bool.not_true])) | rw [Af] | skip)
 replace H := xa H
 go_wp2
 go_meet
 case rel => exact ⟨_, (false), xrr, H, ⟨xom⟩, xdr⟩
 )
 case rest => (
 clear Ac
 obtain ⟨kq, Ab, rfl, HA, HJ1, ⟨mc1, rfl⟩⟩ := hcut
 cases kq with
 | zero => exact absurd HA.out (by simp [cz])
 | succ kj1 => (
 have H := HA.out
 clear HA
 simp only [cz] at H
 refine xib H ?_ ?_ <;> clear H <;> rintro rfl H
 {
 simp only [Option.some.injEq, Prod.mk.injEq] at H
 obtain ⟨rfl, rfl⟩ := H
 go_wp2
 go_ret2
 exact ⟨xrr, xdr⟩
 }
 replace H := xbd H
 obtain ⟨Ag, A5, H⟩ := H
 try dsimp only at H
 refine xib H ?_ ?_ <;> clear H <;> rintro rfl H
 {
 replace H := xbd H
 obtain ⟨Ah, A7, H⟩ := H
 try dsimp only at H
 simp only [Option.some.injEq, Prod.mk.injEq] at H
 obtain ⟨rfl, rfl⟩ := H
 go_wp2_with (first | ((with_reducible refine xgc (f := 32) rfl ?_); refine xca 16 Tryd.func32 (be (w := _) (h := A5.out)) ?_; rintro w' ⟨nd, rfl⟩) | ((with_reducible refine xgc (f := 20) rfl ?_); refine xca 18 Tryd.func20 (aV (w := _) (h := A7.out)) ?_; rintro w' ⟨nd, rfl⟩))
 go_ret2
 exact ⟨xrr, xdr⟩
 }
 simp only [Option.some.injEq, Prod.mk.injEq] at H
 obtain ⟨rfl, rfl⟩ := H
 go_wp2_with (first | ((with_reducible refine xgc (f := 32) rfl ?_); refine xca 16 Tryd.func32 (be (w := _) (h := A5.out)) ?_; rintro w' ⟨nd, rfl⟩))
 go_ret2
 exact ⟨xrr, xdr⟩
 )
 )
def bT : Nat → ByteArray → Int → Bool → Option (Int × Bool)
  | 0, _, _, _ => none
  | k + 1, x0, x1, x24 => if x24 = true then (some (0, false)) else (if 0 ≤ (wrap64 (x1 + 1)) then (if (wrap64 (x1 + 1)) < (x0.size : Int) then ((cu k (bt x0 (wrap64 (x1 + 1)))).bind fun bt133 => (if 0 ≤ (wrap64 (x1 + 2)) then (if (wrap64 (x1 + 2)) < (x0.size : Int) then ((cu k (bt x0 (wrap64 (x1 + 2)))).bind fun bt135 => (if bt133.2 = true then (if bt135.2 = true then (some ((Go.bits .or .i64 (wrap64 (bt133.1 * 16)) bt135.1) % 256, true)) else (some (0, false))) else (some (0, false)))) else (none)) else (none))) else (none)) else (none))
def dv (k : Nat) (a0 : ByteArray) (a1 : Int) : Option (Int × Bool) := if a1 < 0 then (bT k a0 a1 true) else (if a1 > (wrap64 ((a0.size : Int) - 3)) then (bT k a0 a1 true) else (if 0 ≤ a1 then (if a1 < (a0.size : Int) then (bT k a0 a1 ((bt a0 a1) != 37)) else (none)) else (none)))
theorem hX : ∀ k, (∀ y0 y1 y2, LeO (bT k y0 y1 y2) (bT (k + 1) y0 y1 y2))
  | 0 => fun _ _ _ r h => by simp [bT] at h
  | k + 1 => by
    have ih0 := hX k
    have m0 := @d5
    · intro y0 y1 y2
      unfold bT
      exact xmo
theorem gC : ∀ a0 a1 k, LeO (dv k a0 a1) (dv (k + 1) a0 a1) := by
  intro a0 a1 k
  have ih0 := hX k
  have m0 := @d5
  unfold dv
  exact xmo
theorem dI (k : Nat) (a0 : ByteArray) (a1 : Int) (r1 : Int) (r2 : Bool) (w : World) (h : dv k a0 a1 = some (r1, r2)) :
    Calls Tryd.prog 47 #[.string a0, .int .i64 a1] w fun e w' => e = .returned (.tuple #[.int .u8 r1, .bool r2]) ∧ Drawn0 w w' := by
 have H := h
 clear h
 unfold dv at H
 have Ag := Zz.mk H
 clear H
 go_enter Tryd.func47, Tryd.ntmps47
 go_upto_region 1 with (fail)
 go_cut [24] (fun v24 wc => ∃ kq Ac, v24 = .bool Ac ∧ Zz (bT kq a0 a1 Ac = some (r1, r2)) ∧ Zz (kq ≤ k) ∧ Drawn0 w wc)
 case first => (
 have H := Ag.out
 clear Ag
 refine xid H ?_ ?_ <;> clear H <;> intro c4 H
 {
 have Ad := xdt c4
 clear c4
 (first | rw [Ad] | (simp only [an, au]; rw [Ad]) | (rw [Ah]; (try simp only [Bool.not_false, Bool.not_true])) | (rw [Ai]; (try simp only [Bool.not_false, Bool.not_true])) | rw [Aj] | skip)
 replace H := xa H
 go_wp2
 go_meet
 case rel => exact ⟨_, (true), xrr, H, ⟨xom⟩, xdr⟩
 }
 have Ad := xdf c4
 clear c4
 (first | rw [Ad] | (simp only [an, au]; rw [Ad]) | (rw [Ah]; (try simp only [Bool.not_false, Bool.not_true])) | (rw [Ai]; (try simp only [Bool.not_false, Bool.not_true])) | rw [Aj] | skip)
 refine xid H ?_ ?_ <;> clear H <;> intro c5 H
 {
 have Ak := xdt c5
 clear c5
 replace H := xa H
 go_wp2
 go_meet
 case rel => exact ⟨_, (true), xrr, H, ⟨xom⟩, xdr⟩
 }
 have Ak := xdf c5
 clear c5
 refine xin H ?_; clear H; intro c6 H
 have Ar := xdt c6
 clear c6
 refine xin H ?_; clear H; intro c7 H
 have As := xdt c7
 clear c7
 replace H := xa H
 obtain ⟨p8, q8, hx8⟩ := xiv a0 a1 xod xod
 go_wp2
 go_meet
 case rel => exact ⟨_, (((bt a0 a1) != 37)), xrr, H, ⟨xom⟩, xdr⟩
 )
 case rest => (
 clear Ag
 obtain ⟨kq, Ac, rfl, HA, HJ2, ⟨mc2, rfl⟩⟩ := hcut
 cases kq with
 | zero => exact absurd HA.out (by simp [bT])
 | succ kj2 => (
 have H := HA.out
 clear HA
 simp only [bT] at H
 refine xib H ?_ ?_ <;> clear H <;> rintro rfl H
 {
 simp only [Option.some.injEq, Prod.mk.injEq] at H
 obtain ⟨rfl, rfl⟩ := H
 go_wp2
 go_ret2
 exact ⟨xrr, xdr⟩
 }
 obtain ⟨Ae, Ab⟩ : ∃ j_ : Int, (wrap64 (a1 + 1)) = j_ := ⟨_, rfl⟩
 first | rw [Ab] at H | simp only [Ab] at H | skip
 have Al : (IntKind.i64.wrap (a1 + 1)) = Ae := (an _).trans Ab
 refine xin H ?_; clear H; intro c11 H
 have An := xdt c11
 clear c11
 refine xin H ?_; clear H; intro c12 H
 have Ao := xdt c12
 clear c12
 replace H := xbd H
 obtain ⟨⟨At, Au⟩, A14, H⟩ := H
 try dsimp only at H
 obtain ⟨Af, Aa⟩ : ∃ j_ : Int, (wrap64 (a1 + 2)) = j_ := ⟨_, rfl⟩
 first | rw [Aa] at H | simp only [Aa] at H | skip
 (try rw [Aa] at A14)
 have Am : (IntKind.i64.wrap (a1 + 2)) = Af := (an _).trans Aa
 refine xin H ?_; clear H; intro c16 H
 have Ap := xdt c16
 clear c16
 refine xin H ?_; clear H; intro c17 H
 have Aq := xdt c17
 clear c17
 replace H := xbd H
 obtain ⟨⟨Av, Aw⟩, A19, H⟩ := H
 try dsimp only at H
 refine xib H ?_ ?_ <;> clear H <;> rintro rfl H
 {
 refine xib H ?_ ?_ <;> clear H <;> rintro rfl H
 {
 simp only [Option.some.injEq, Prod.mk.injEq] at H
 obtain ⟨rfl, rfl⟩ := H
 obtain ⟨p13, q13, hx13⟩ := xiv a0 (Ae) xod xod
 go_wp2_with (first | ((with_reducible refine xgc (f := 61) rfl ?_); refine xca 30 Tryd.func61 (cj (w := _) (h := A14.out)) ?_ (hargs := by (try simp only [xm1, xm2, xm3]); first | done | (simp only [Ab]; rfl) | rfl); rintro w' ⟨nd, rfl⟩; obtain ⟨p18, q18, hx18⟩ := xiv a0 (Af) xod xod) | ((with_reducible refine xgc (f := 61) rfl ?_); refine xca 38 Tryd.func61 (cj (w := _) (h := A19.out)) ?_ (hargs := by (try simp only [xm1, xm2, xm3]); first | done | (simp only [Aa]; rfl) | rfl); rintro w' ⟨nd, rfl⟩))
 go_ret2
 exact ⟨by first | exact xrs | (simp only [← Ab, ← Aa] <;> (first | rfl | simp)) | exact xrr, xdr⟩
 }
 simp only [Option.some.injEq, Prod.mk.injEq] at H
 obtain ⟨rfl, rfl⟩ := H
 obtain ⟨p13, q13, hx13⟩ := xiv a0 (Ae) xod xod
 go_wp2_with (first | ((with_reducible refine xgc (f := 61) rfl ?_); refine xca 30 Tryd.func61 (cj (w := _) (h := A14.out)) ?_ (hargs := by (try simp only [xm1, xm2, xm3]); first | done | (simp only [Ab]; rfl) | rfl); rintro w' ⟨nd, rfl⟩; obtain ⟨p18, q18, hx18⟩ := xiv a0 (Af) xod xod) | ((with_reducible refine xgc (f := 61) rfl ?_); refine xca 38 Tryd.func61 (cj (w := _) (h := A19.out)) ?_ (hargs := by (try simp only [xm1, xm2, xm3]); first | done | (simp only [Aa]; rfl) | rfl); rintro w' ⟨nd, rfl⟩))
 go_ret2
 exact ⟨by first | exact xrs | (simp only [← Ab, ← Aa] <;> (first | rfl | simp)) | exact xrr, xdr⟩
 }
 simp only [Option.some.injEq, Prod.mk.injEq] at H
 obtain ⟨rfl, rfl⟩ := H
 obtain ⟨p13, q13, hx13⟩ := xiv a0 (Ae) xod xod
 go_wp2_with (first | ((with_reducible refine xgc (f := 61) rfl ?_); refine xca 30 Tryd.func61 (cj (w := _) (h := A14.out)) ?_ (hargs := by (try simp only [xm1, xm2, xm3]); first | done | (simp only [Ab]; rfl) | rfl); rintro w' ⟨nd, rfl⟩; obtain ⟨p18, q18, hx18⟩ := xiv a0 (Af) xod xod) | ((with_reducible refine xgc (f := 61) rfl ?_); refine xca 38 Tryd.func61 (cj (w := _) (h := A19.out)) ?_ (hargs := by (try simp only [xm1, xm2, xm3]); first | done | (simp only [Aa]; rfl) | rfl); rintro w' ⟨nd, rfl⟩))
 go_ret2
 exact ⟨by first | exact xrs | (simp only [← Ab, ← Aa] <;> (first | rfl | simp)) | exact xrr, xdr⟩
 )
 )
def eY (a0 : Int) : Option (ByteArray × Bool) := if a0 = 1 then (some ((⟨#[58]⟩ : ByteArray), true)) else (if a0 = 2 then (some ((⟨#[]⟩ : ByteArray), true)) else (if a0 = 3 then (some ((⟨#[58, 64]⟩ : ByteArray), true)) else (if a0 = 4 then (some ((⟨#[64]⟩ : ByteArray), true)) else (if a0 = 5 then (some ((⟨#[58, 64, 47]⟩ : ByteArray), true)) else (if a0 = 6 then (some ((⟨#[58, 64, 47, 63]⟩ : ByteArray), true)) else (if a0 = 7 then (some ((⟨#[58, 64, 47, 63]⟩ : ByteArray), true)) else (some ((⟨#[]⟩ : ByteArray), false))))))))
theorem bO (a0 : Int) (r1 : ByteArray) (r2 : Bool) (w : World) (h : eY a0 = some (r1, r2)) :
    Calls Tryd.prog 74 #[.int .i64 a0] w fun e w' => e = .returned (.tuple #[.string r1, .bool r2]) ∧ Drawn0 w w' := by
 have H := h
 clear h
 unfold eY at H
 refine xid H ?_ ?_ <;> clear H <;> intro c2 H
 {
 obtain ⟨Aa, Ab⟩ := xqe c2
 clear c2
 simp only [Option.some.injEq, Prod.mk.injEq] at H
 obtain ⟨rfl, rfl⟩ := H
 go_enter Tryd.func74, Tryd.ntmps74
 go_wp2
 go_ret2
 exact ⟨xrr, xdr⟩
 }
 obtain ⟨Aa, Ab⟩ := xqn c2
 refine xid H ?_ ?_ <;> clear H <;> intro c3 H
 {
 obtain ⟨Ac, Ad⟩ := xqe c3
 clear c3
 simp only [Option.some.injEq, Prod.mk.injEq] at H
 obtain ⟨rfl, rfl⟩ := H
 go_enter Tryd.func74, Tryd.ntmps74
 go_wp2
 go_ret2
 exact ⟨xrr, xdr⟩
 }
 obtain ⟨Ac, Ad⟩ := xqn c3
 refine xid H ?_ ?_ <;> clear H <;> intro c4 H
 {
 obtain ⟨Ae, Af⟩ := xqe c4
 clear c4
 simp only [Option.some.injEq, Prod.mk.injEq] at H
 obtain ⟨rfl, rfl⟩ := H
 go_enter Tryd.func74, Tryd.ntmps74
 go_wp2
 go_ret2
 exact ⟨xrr, xdr⟩
 }
 obtain ⟨Ae, Af⟩ := xqn c4
 refine xid H ?_ ?_ <;> clear H <;> intro c5 H
 {
 obtain ⟨Ag, Ah⟩ := xqe c5
 clear c5
 simp only [Option.some.injEq, Prod.mk.injEq] at H
 obtain ⟨rfl, rfl⟩ := H
 go_enter Tryd.func74, Tryd.ntmps74
 go_wp2
 go_ret2
 exact ⟨xrr, xdr⟩
 }
 obtain ⟨Ag, Ah⟩ := xqn c5
 refine xid H ?_ ?_ <;> clear H <;> intro c6 H
 {
 obtain ⟨Ai, Aj⟩ := xqe c6
 clear c6
 simp only [Option.some.injEq, Prod.mk.injEq] at H
 obtain ⟨rfl, rfl⟩ := H
 go_enter Tryd.func74, Tryd.ntmps74
 go_wp2
 go_ret2
 exact ⟨xrr, xdr⟩
 }
 obtain ⟨Ai, Aj⟩ := xqn c6
 refine xid H ?_ ?_ <;> clear H <;> intro c7 H
 {
 obtain ⟨Ak, Al⟩ := xqe c7
 clear c7
 simp only [Option.some.injEq, Prod.mk.injEq] at H
 obtain ⟨rfl, rfl⟩ := H
 go_enter Tryd.func74, Tryd.ntmps74
 go_wp2
 go_ret2
 exact ⟨xrr, xdr⟩
 }
 obtain ⟨Ak, Al⟩ := xqn c7
 refine xid H ?_ ?_ <;> clear H <;> intro c8 H
 {
 obtain ⟨Am, An⟩ := xqe c8
 clear c8
 simp only [Option.some.injEq, Prod.mk.injEq] at H
 obtain ⟨rfl, rfl⟩ := H
 go_enter Tryd.func74, Tryd.ntmps74
 go_wp2
 go_ret2
 exact ⟨xrr, xdr⟩
 }
 obtain ⟨Am, An⟩ := xqn c8
 simp only [Option.some.injEq, Prod.mk.injEq] at H
 obtain ⟨rfl, rfl⟩ := H
 go_enter Tryd.func74, Tryd.ntmps74
 go_wp2
 go_ret2
 exact ⟨xrr, xdr⟩
def dL (k : Nat) (a0 : Int) (a1 : Int) : Option (Bool) := (eY a0).bind fun bt137 => (if bt137.2 = true then ((cM k a1 15).bind fun t139 => (if t139 = true then (some true) else ((cG k bt137.1 0 (strOfNums (([a1] : List Int)))).bind fun t143 => (some (decide (t143 ≥ 0)))))) else (some false))
theorem eM : ∀ a0 a1 k, LeO (dL k a0 a1) (dL (k + 1) a0 a1) := by
  intro a0 a1 k
  have m0 := @er; have m1 := @cd
  unfold dL
  exact xmo
theorem fM (k : Nat) (a0 : Int) (a1 : Int) (r : Bool) (w : World) (h : dL k a0 a1 = some r) :
    Calls Tryd.prog 81 #[.int .i64 a0, .int .u8 a1] w fun e w' => e = .returned (.bool r) ∧ Below w.heap.size w w' := by
 have HB := Zz.mk (Below.refl w.heap.size w)
 have H := h
 clear h
 unfold dL at H
 replace H := xbd H
 obtain ⟨⟨Ae, Ag⟩, A3, H⟩ := H
 try dsimp only at H
 refine xib H ?_ ?_ <;> clear H <;> rintro rfl H
 {
 replace H := xbd H
 obtain ⟨Ah, A5, H⟩ := H
 try dsimp only at H
 refine xib H ?_ ?_ <;> clear H <;> rintro rfl H
 {
 obtain rfl := Option.some.inj H
 go_enter Tryd.func81, Tryd.ntmps81
 go_wp2_with (first | ((with_reducible refine xgc (f := 74) rfl ?_); refine xca 9 Tryd.func74 (bO (w := _) (h := A3.out)) ?_; rintro w' ⟨nd, rfl⟩) | ((with_reducible refine xgc (f := 32) rfl ?_); refine xca 15 Tryd.func32 (be (w := _) (h := A5.out)) ?_; rintro w' ⟨nd, rfl⟩))
 go_ret
 exact ⟨xre, xbl⟩
 }
 obtain ⟨Af, Aa⟩ : ∃ y_ : List Int, y_ = (([a1] : List Int)) := ⟨_, rfl⟩
 replace H : ((cG k Ae 0 (strOfNums Af)).bind fun Ad => (some (decide (Ad ≥ 0)))) = some r := by first | (rw [Aa]; with_reducible exact H) | (have H2_ := (Option.bind_some _ _).symm.trans H; rw [Aa]; with_reducible exact H2_) | (have H2_ := (Option.bind_some _ _).symm.trans H; with_reducible exact H2_) | with_reducible exact H | (rw [Aa]; exact H) | exact H
 have Ac := Zz.mk Aa
 clear Aa
 replace H := xbd H
 obtain ⟨Ad, A7, H⟩ := H
 try dsimp only at H
 obtain rfl := Option.some.inj H
 go_enter Tryd.func81, Tryd.ntmps81
 go_wp2_with (first | ((with_reducible refine xgc (f := 74) rfl ?_); refine xca 9 Tryd.func74 (bO (w := _) (h := A3.out)) ?_; rintro w' ⟨nd, rfl⟩) | ((with_reducible refine xgc (f := 32) rfl ?_); refine xca 15 Tryd.func32 (be (w := _) (h := A5.out)) ?_; rintro w' ⟨nd, rfl⟩) | ((with_reducible refine af (N := 19) rfl ?_); (try (refine el (by rfl) ?_; dsimp only)); refine Kd.R_lit (Kd.int .u8) _ 5 ?hg (N := 19) ?hd (xs := ([a1] : List Int)) (inner := [.int .u8 a1]) (ok := fun _ => True) (okp := fun _ => True) ?hr ?hp (fun _ hk => hk) trivial (Below.refl _ _) (Nat.le_refl _) (by simp) ?_; (case hd => rfl); (case hg => rfl); (case hr => first | (go_simp; done) | (go_simp; rfl)); (case hp => exact (Reps.one (show Kd.M (Kd.int .u8) _ _ _ a1 [.int .u8 a1] from rfl) (Reps.none _ _))); intro v141 w8 ho9 hb hg_ hnew_; clear hg_ hnew_; (first | rw [← Ac.out] at ho9 | (simp only [Int.reduceToNat] at ho9; rw [← Ac.out] at ho9)); have Ab := Zz.mk (Kd.R_lower ho9 (aD xbl)); replace HB := xst hb; clear hb ho9; have hcv10 := gm (P := Tryd.prog) Tryd.underlying44 Tryd.underlying5 Tryd.underlying9 (Kd.own_of_R Ab.out)) | (go_at_call 49; (with_reducible refine (b8 (w := _) (h := A7.out)).mono ?_); rintro e w11 ⟨rfl, hb⟩; replace Ab := Zz.mk (Kd.R_below (xkd Ab) hb); replace HB := xst hb; (try clear hb)))
 go_ret
 exact ⟨xre, xbl⟩
 }
 obtain rfl := Option.some.inj H
 go_enter Tryd.func81, Tryd.ntmps81
 go_wp2_with (first | ((with_reducible refine xgc (f := 74) rfl ?_); refine xca 9 Tryd.func74 (bO (w := _) (h := A3.out)) ?_; rintro w' ⟨nd, rfl⟩))
 go_ret
 exact ⟨xre, xbl⟩
def aX : Nat → Int → Bool → Option (Bool)
  | 0, _, _ => none
  | k + 1, x0, x6 => if x6 = true then (some true) else (if x0 < 65536 then (some false) else (if x0 > 983037 then (some false) else (if (Go.bits .and .i32 x0 65535) ≤ 65533 then (if x0 < 917504 then (some true) else (some (decide (x0 ≥ 921600)))) else (some false))))
def dV (k : Nat) (a0 : Int) : Option (Bool) := if a0 < 160 then (some false) else (if a0 ≤ 55295 then (aX k a0 (decide (a0 ≤ 55295))) else (if a0 ≥ 63744 then (if a0 ≤ 64975 then (aX k a0 (decide (a0 ≤ 64975))) else (if a0 ≥ 65008 then (aX k a0 (decide (a0 ≤ 65519))) else (aX k a0 false))) else (if a0 ≥ 65008 then (aX k a0 (decide (a0 ≤ 65519))) else (aX k a0 false))))
theorem gv : ∀ k, (∀ y0 y1, LeO (aX k y0 y1) (aX (k + 1) y0 y1))
  | 0 => fun _ _ r h => by simp [aX] at h
  | k + 1 => by
    have ih0 := gv k
    · intro y0 y1
      unfold aX
      exact xmo
theorem gV : ∀ a0 k, LeO (dV k a0) (dV (k + 1) a0) := by
  intro a0 k
  have ih0 := gv k
  unfold dV
  exact xmo
theorem fp (k : Nat) (a0 : Int) (r : Bool) (w : World) (h : dV k a0 = some r) :
    Calls Tryd.prog 82 #[.int .i32 a0] w fun e w' => e = .returned (.bool r) ∧ Drawn0 w w' := by
 have H := h
 clear h
 unfold dV at H
 refine xid H ?_ ?_ <;> clear H <;> intro c2 H
 {
 have Ac := xdt c2
 clear c2
 obtain rfl := Option.some.inj H
 go_enter Tryd.func82, Tryd.ntmps82
 go_wp2
 go_ret
 exact ⟨xrr, xdr⟩
 }
 have Ac := xdf c2
 clear c2
 have Ah := Zz.mk H
 clear H
 go_enter Tryd.func82, Tryd.ntmps82
 go_upto_if 6 with (fail)
 go_cut [6] (fun v6 wc => ∃ kq Ab, v6 = .bool Ab ∧ Zz (aX kq a0 Ab = some r) ∧ Zz (kq ≤ k) ∧ Drawn0 w wc)
 case first => (
 have H := Ah.out
 clear Ah
 refine xid H ?_ ?_ <;> clear H <;> intro c4 H
 {
 have Aa := xdt c4
 clear c4
 (first | rw [Aa] | (simp only [an, au]; rw [Aa]) | (rw [Ai]; (try simp only [Bool.not_false, Bool.not_true])) | (rw [Aj]; (try simp only [Bool.not_false, Bool.not_true])) | rw [Ak] | skip)
 replace H := xa H
 go_wp2
 go_meet
 case rel => exact ⟨_, (decide (a0 ≤ 55295)), xrr, H, ⟨xom⟩, xdr⟩
 }
 have Aa := xdf c4
 clear c4
 (first | rw [Aa] | (simp only [an, au]; rw [Aa]) | (rw [Ai]; (try simp only [Bool.not_false, Bool.not_true])) | (rw [Aj]; (try simp only [Bool.not_false, Bool.not_true])) | rw [Ak] | skip)
 refine xid H ?_ ?_ <;> clear H <;> intro c5 H
 {
 have Al := xdt c5
 clear c5
 refine xid H ?_ ?_ <;> clear H <;> intro c6 H
 {
 have Am := xdt c6
 clear c6
 replace H := xa H
 go_wp2
 go_meet
 case rel => exact ⟨_, (decide (a0 ≤ 64975)), xrr, H, ⟨xom⟩, xdr⟩
 }
 have Am := xdf c6
 clear c6
 refine xid H ?_ ?_ <;> clear H <;> intro c7 H
 {
 have An := xdt c7
 clear c7
 replace H := xa H
 go_wp2
 go_meet
 case rel => exact ⟨_, (decide (a0 ≤ 65519)), xrr, H, ⟨xom⟩, xdr⟩
 }
 have An := xdf c7
 clear c7
 replace H := xa H
 go_wp2
 go_meet
 case rel => exact ⟨_, (false), xrr, H, ⟨xom⟩, xdr⟩
 }
 have Al := xdf c5
 clear c5
 refine xid H ?_ ?_ <;> clear H <;> intro c8 H
 {
 have Ao := xdt c8
 clear c8
 replace H := xa H
 go_wp2
 go_meet
 case rel => exact ⟨_, (decide (a0 ≤ 65519)), xrr, H, ⟨xom⟩, xdr⟩
 }
 have Ao := xdf c8
 clear c8
 replace H := xa H
 go_wp2
 go_meet
 case rel => exact ⟨_, (false), xrr, H, ⟨xom⟩, xdr⟩
 )
 case rest => (
 clear Ah
 clear Ac
 obtain ⟨kq, Ab, rfl, HA, HJ2, ⟨mc2, rfl⟩⟩ := hcut
 cases kq with
 | zero => exact absurd HA.out (by simp [aX])
 | succ kj2 => (
 have H := HA.out
 clear HA
 simp only [aX] at H
 refine xib H ?_ ?_ <;> clear H <;> rintro rfl H
 {
 obtain rfl := Option.some.inj H
 go_wp2
 go_ret
 exact ⟨xrr, xdr⟩
 }
 refine xid H ?_ ?_ <;> clear H <;> intro c10 H
 {
 have Ad := xdt c10
 clear c10
 obtain rfl := Option.some.inj H
 go_wp2
 go_ret
 exact ⟨xrr, xdr⟩
 }
 have Ad := xdf c10
 clear c10
 refine xid H ?_ ?_ <;> clear H <;> intro c11 H
 {
 have Ae := xdt c11
 clear c11
 obtain rfl := Option.some.inj H
 go_wp2
 go_ret
 exact ⟨xrr, xdr⟩
 }
 have Ae := xdf c11
 clear c11
 refine xid H ?_ ?_ <;> clear H <;> intro c12 H
 {
 have Af := xdt c12
 clear c12
 refine xid H ?_ ?_ <;> clear H <;> intro c13 H
 {
 have Ag := xdt c13
 clear c13
 obtain rfl := Option.some.inj H
 go_wp2
 go_ret
 exact ⟨xrr, xdr⟩
 }
 have Ag := xdf c13
 clear c13
 obtain rfl := Option.some.inj H
 go_wp2
 go_ret
 exact ⟨xrr, xdr⟩
 }
 have Af := xdf c12
 clear c12
 obtain rfl := Option.some.inj H
 go_wp2
 go_ret
 exact ⟨xrr, xdr⟩
 )
 )
def gj (a0 : Int) : Option (Bool) := if a0 ≥ 57344 then (if a0 ≤ 63743 then (some true) else (if a0 ≥ 983040 then (if a0 ≤ 1048573 then (some true) else (if a0 ≥ 1048576 then (some (decide (a0 ≤ 1114109))) else (some false))) else (if a0 ≥ 1048576 then (some (decide (a0 ≤ 1114109))) else (some false)))) else (if a0 ≥ 983040 then (if a0 ≤ 1048573 then (some true) else (if a0 ≥ 1048576 then (some (decide (a0 ≤ 1114109))) else (some false))) else (if a0 ≥ 1048576 then (some (decide (a0 ≤ 1114109))) else (some false)))
theorem jo (a0 : Int) (r : Bool) (w : World) (h : gj a0 = some r) :
    Calls Tryd.prog 83 #[.int .i32 a0] w fun e w' => e = .returned (.bool r) ∧ Drawn0 w w' := by
 have H := h
 clear h
 unfold gj at H
 refine xid H ?_ ?_ <;> clear H <;> intro c2 H
 {
 have Ac := xdt c2
 clear c2
 refine xid H ?_ ?_ <;> clear H <;> intro c3 H
 {
 have Ad := xdt c3
 clear c3
 obtain rfl := Option.some.inj H
 go_enter Tryd.func83, Tryd.ntmps83
 go_wp2
 go_ret
 exact ⟨xrr, xdr⟩
 }
 have Ad := xdf c3
 clear c3
 refine xid H ?_ ?_ <;> clear H <;> intro c4 H
 {
 have Ae := xdt c4
 clear c4
 refine xid H ?_ ?_ <;> clear H <;> intro c5 H
 {
 have Af := xdt c5
 clear c5
 obtain rfl := Option.some.inj H
 go_enter Tryd.func83, Tryd.ntmps83
 go_wp2
 go_ret
 exact ⟨xrr, xdr⟩
 }
 have Af := xdf c5
 clear c5
 refine xid H ?_ ?_ <;> clear H <;> intro c6 H
 {
 have Ag := xdt c6
 clear c6
 obtain rfl := Option.some.inj H
 go_enter Tryd.func83, Tryd.ntmps83
 go_wp2
 go_ret
 exact ⟨xrr, xdr⟩
 }
 have Ag := xdf c6
 clear c6
 obtain rfl := Option.some.inj H
 go_enter Tryd.func83, Tryd.ntmps83
 go_wp2
 go_ret
 exact ⟨xrr, xdr⟩
 }
 have Ae := xdf c4
 clear c4
 refine xid H ?_ ?_ <;> clear H <;> intro c7 H
 {
 have Ah := xdt c7
 clear c7
 obtain rfl := Option.some.inj H
 go_enter Tryd.func83, Tryd.ntmps83
 go_wp2
 go_ret
 exact ⟨xrr, xdr⟩
 }
 have Ah := xdf c7
 clear c7
 obtain rfl := Option.some.inj H
 go_enter Tryd.func83, Tryd.ntmps83
 go_wp2
 go_ret
 exact ⟨xrr, xdr⟩
 }
 have Ac := xdf c2
 clear c2
 refine xid H ?_ ?_ <;> clear H <;> intro c8 H
 {
 have Ai := xdt c8
 clear c8
 refine xid H ?_ ?_ <;> clear H <;> intro c9 H
 {
 have Aj := xdt c9
 clear c9
 obtain rfl := Option.some.inj H
 go_enter Tryd.func83, Tryd.ntmps83
 go_wp2
 go_ret
 exact ⟨xrr, xdr⟩
 }
 have Aj := xdf c9
 clear c9
 refine xid H ?_ ?_ <;> clear H <;> intro c10 H
 {
 have Aa := xdt c10
 clear c10
 obtain rfl := Option.some.inj H
 go_enter Tryd.func83, Tryd.ntmps83
 go_wp2
 go_ret
 exact ⟨xrr, xdr⟩
 }
 have Aa := xdf c10
 clear c10
 obtain rfl := Option.some.inj H
 go_enter Tryd.func83, Tryd.ntmps83
 go_wp2
 go_ret
 exact ⟨xrr, xdr⟩
 }
 have Ai := xdf c8
 clear c8
 refine xid H ?_ ?_ <;> clear H <;> intro c11 H
 {
 have Ab := xdt c11
 clear c11
 obtain rfl := Option.some.inj H
 go_enter Tryd.func83, Tryd.ntmps83
 go_wp2
 go_ret
 exact ⟨xrr, xdr⟩
 }
 have Ab := xdf c11
 clear c11
 obtain rfl := Option.some.inj H
 go_enter Tryd.func83, Tryd.ntmps83
 go_wp2
 go_ret
 exact ⟨xrr, xdr⟩
mutual
def db : Nat → Int → Bool → Int → Bool → Option (Bool)
  | 0, _, _, _, _ => none
  | k + 1, x0, x1, x2, x14 => if x14 = true then ((dL k x0 ((x2) % 256)).bind fun t144 => (some t144)) else ((eY x0).bind fun bt145 => (if bt145.2 = true then (dc k x0 x2 (!x1)) else (dc k x0 x2 true)))
def dc : Nat → Int → Int → Bool → Option (Bool)
  | 0, _, _, _ => none
  | k + 1, x0, x2, x29 => if x29 = true then (some false) else ((dV k x2).bind fun t147 => (if t147 = true then (some true) else (if x0 = 6 then ((gj x2).bind fun t148 => (some t148)) else (some false))))
end
def e7 (k : Nat) (a0 : Int) (a1 : Bool) (a2 : Int) : Option (Bool) := if a2 ≥ 0 then (db k a0 a1 a2 (decide (a2 < 128))) else (db k a0 a1 a2 false)
theorem ia : ∀ k, (∀ y0 y1 y2 y3, LeO (db k y0 y1 y2 y3) (db (k + 1) y0 y1 y2 y3)) ∧ (∀ y0 y1 y2, LeO (dc k y0 y1 y2) (dc (k + 1) y0 y1 y2))
  | 0 => ⟨fun _ _ _ _ r h => by simp [db] at h, fun _ _ _ r h => by simp [dc] at h⟩
  | k + 1 => by
    obtain ⟨ih0, ih1⟩ := ia k
    have m0 := @gV; have m1 := @eM
    refine ⟨?_, ?_⟩
    · intro y0 y1 y2 y3
      unfold db
      exact xmo
    · intro y0 y1 y2
      unfold dc
      exact xmo
theorem iW : ∀ a0 a1 a2 k, LeO (e7 k a0 a1 a2) (e7 (k + 1) a0 a1 a2) := by
  intro a0 a1 a2 k
  obtain ⟨ih0, ih1⟩ := ia k
  have m0 := @gV; have m1 := @eM
  unfold e7
  exact xmo
theorem iC (k : Nat) (a0 : Int) (a1 : Bool) (a2 : Int) (r : Bool) (w : World) (h : e7 k a0 a1 a2 = some r) :
    Calls Tryd.prog 75 #[.int .i64 a0, .bool a1, .int .i32 a2] w fun e w' => e = .returned (.bool r) ∧ Below w.heap.size w w' := by
 have HB := Zz.mk (Below.refl w.heap.size w)
 have H := h
 clear h
 unfold e7 at H
 have Ag := Zz.mk H
 clear H
 go_enter Tryd.func75, Tryd.ntmps75
 go_upto_region 1 with (fail)
 go_cut [14] (fun v14 wc => ∃ kq Aa, v14 = .bool Aa ∧ Zz (db kq a0 a1 a2 Aa = some r) ∧ Zz (kq ≤ k) ∧ Zz (Below w.heap.size w wc))
 case first => (
 have H := Ag.out
 clear Ag
 refine xid H ?_ ?_ <;> clear H <;> intro c5 H
 {
 have Ab := xdt c5
 clear c5
 (first | rw [Ab] | (simp only [an, au]; rw [Ab]) | (rw [Ah]; (try simp only [Bool.not_false, Bool.not_true])) | (rw [Ai]; (try simp only [Bool.not_false, Bool.not_true])) | rw [Aj] | skip)
 replace H := xa H
 go_wp2
 go_meet
 case rel => exact ⟨_, (decide (a2 < 128)), xrr, H, ⟨xom⟩, ⟨xbl⟩⟩
 }
 have Ab := xdf c5
 clear c5
 (first | rw [Ab] | (simp only [an, au]; rw [Ab]) | (rw [Ah]; (try simp only [Bool.not_false, Bool.not_true])) | (rw [Ai]; (try simp only [Bool.not_false, Bool.not_true])) | rw [Aj] | skip)
 replace H := xa H
 go_wp2
 go_meet
 case rel => exact ⟨_, (false), xrr, H, ⟨xom⟩, ⟨xbl⟩⟩
 )
 case rest => (
 clear Ag
 obtain ⟨kq, Aa, rfl, HA, HJ3, HB⟩ := hcut
 cases kq with
 | zero => exact absurd HA.out (by simp [db])
 | succ kj3 => (
 have H := HA.out
 clear HA
 simp only [db] at H
 refine xib H ?_ ?_ <;> clear H <;> rintro rfl H
 {
 replace H := xbd H
 obtain ⟨Ak, A7, H⟩ := H
 try dsimp only at H
 obtain rfl := Option.some.inj H
 go_wp2_with (first | ((with_reducible refine xgc (f := 81) rfl ?_); refine xca 18 Tryd.func81 (fM (w := _) (h := A7.out)) ?_; rintro w8 hb; replace HB := xst hb; (try clear hb)))
 go_ret
 exact ⟨xre, xbl⟩
 }
 replace H := xbd H
 obtain ⟨⟨Al, Am⟩, A9, H⟩ := H
 try dsimp only at H
 have Ad := Zz.mk H
 clear H
 go_upto_region 4 with (first | ((with_reducible refine xgc (f := 74) rfl ?_); refine xca 21 Tryd.func74 (bO (w := _) (h := A9.out)) ?_; rintro w' ⟨nd, rfl⟩))
 (try simp only [Act.put, xl1, xl2, xl3])
 go_cut [29] (fun v29 wc => ∃ kq Ac, v29 = .bool Ac ∧ Zz (dc kq a0 a2 Ac = some r) ∧ Zz (kq ≤ kj3) ∧ Zz (Below w.heap.size w wc))
 case first => (
 have H := Ad.out
 clear Ad
 refine xib H ?_ ?_ <;> clear H <;> rintro rfl H
 {
 replace H := xa H
 go_wp2
 go_meet
 case rel => exact ⟨_, (!a1), xrr, H, ⟨xoj HJ3⟩, ⟨xbl⟩⟩
 }
 replace H := xa H
 go_wp2
 go_meet
 case rel => exact ⟨_, (true), xrr, H, ⟨xoj HJ3⟩, ⟨xbl⟩⟩
 )
 case rest => (
 clear Ad
 obtain ⟨kq, Ac, rfl, HA, HJ9, HB⟩ := hcut
 cases kq with
 | zero => exact absurd HA.out (by simp [dc])
 | succ kj9 => (
 have H := HA.out
 clear HA
 simp only [dc] at H
 refine xib H ?_ ?_ <;> clear H <;> rintro rfl H
 {
 obtain rfl := Option.some.inj H
 go_wp2
 go_ret
 exact ⟨xre, xbl⟩
 }
 replace H := xbd H
 obtain ⟨An, A13, H⟩ := H
 try dsimp only at H
 refine xib H ?_ ?_ <;> clear H <;> rintro rfl H
 {
 obtain rfl := Option.some.inj H
 go_wp2_with (first | ((with_reducible refine xgc (f := 82) rfl ?_); refine xca 31 Tryd.func82 (fp (w := _) (h := A13.out)) ?_; rintro w' ⟨nd, rfl⟩))
 go_ret
 exact ⟨xre, xbl⟩
 }
 refine xid H ?_ ?_ <;> clear H <;> intro c15 H
 {
 obtain ⟨Ae, Af⟩ := xqe c15
 clear c15
 replace H := xbd H
 obtain ⟨Ao, A16, H⟩ := H
 try dsimp only at H
 obtain rfl := Option.some.inj H
 go_wp2_with (first | ((with_reducible refine xgc (f := 82) rfl ?_); refine xca 31 Tryd.func82 (fp (w := _) (h := A13.out)) ?_; rintro w' ⟨nd, rfl⟩) | (go_at_call 83; (with_reducible refine (jo (w := _) (h := A16.out)).mono ?_); rintro e w' ⟨rfl, ⟨nd, rfl⟩⟩))
 go_ret
 exact ⟨xre, xbl⟩
 }
 obtain ⟨Ae, Af⟩ := xqn c15
 obtain rfl := Option.some.inj H
 go_wp2_with (first | ((with_reducible refine xgc (f := 82) rfl ?_); refine xca 31 Tryd.func82 (fp (w := _) (h := A13.out)) ?_; rintro w' ⟨nd, rfl⟩))
 go_ret
 exact ⟨xre, xbl⟩
 )
 )
 )
 )
def ct : Nat → Int → Bool → ByteArray → Int → Option (Int)
  | 0, _, _, _, _ => none
  | k + 1, x0, x1, x2, x7 => if x7 < (x2.size : Int) then ((eY x0).bind fun Ab => (if Ab.2 = true then ((dv k x2 x7).bind fun Ac => (if Ac.2 = true then (ct k x0 x1 x2 (wrap64 (x7 + 3))) else (if 0 ≤ x7 then (if x7 ≤ (x2.size : Int) then ((ea k (x2.extract (x7 : Int).toNat x2.size)).bind fun Aa => (if Aa.2.2 = true then ((e7 k x0 x1 Aa.1).bind fun Ad => (if Ad = true then (ct k x0 x1 x2 (wrap64 (x7 + Aa.2.1))) else (some x7))) else (some x7))) else (none)) else (none)))) else (some 0))) else (some x7)
def dZ (k : Nat) (a0 : Int) (a1 : Bool) (a2 : ByteArray) : Option (Int) := ct k a0 a1 a2 0
theorem gW : ∀ k, (∀ y0 y1 y2 y3, LeO (ct k y0 y1 y2 y3) (ct (k + 1) y0 y1 y2 y3))
  | 0 => fun _ _ _ _ r h => by simp [ct] at h
  | k + 1 => by
    have ih0 := gW k
    have m0 := @gC; have m1 := @iW; have m2 := @gq
    · intro y0 y1 y2 y3
      unfold ct
      exact xmo
theorem iD : ∀ a0 a1 a2 k, LeO (dZ k a0 a1 a2) (dZ (k + 1) a0 a1 a2) := by
  intro a0 a1 a2 k
  have ih0 := gW k
  have m0 := @gC; have m1 := @iW; have m2 := @gq
  unfold dZ
  exact xmo
theorem ib (k : Nat) (a0 : Int) (a1 : Bool) (a2 : ByteArray) (r : Int) (w : World) (h : dZ k a0 a1 a2 = some r) :
    Calls Tryd.prog 65 #[.int .i64 a0, .bool a1, .string a2] w fun e w' => e = .returned (.int .i64 r) ∧ Below w.heap.size w w' := by
 have HB := Zz.mk (Below.refl w.heap.size w)
 have H := h
 clear h
 unfold dZ at H
 have H' := Zz.mk H
 clear H
 go_enter Tryd.func65, Tryd.ntmps65
 go_wp2
 go_loopg [7] k (fun kq v7 w' => ∃ Ab, v7 = .int .i64 Ab ∧ Zz (ct kq a0 a1 a2 Ab = some r) ∧ Zz (kq ≤ k) ∧ Zz (Below w.heap.size w w'))
 case atStart => exact ⟨(0), xrr, H', ⟨Nat.le_refl _⟩, ⟨xbl⟩⟩
 case round => (
 clear H'
 obtain ⟨Ab, rfl, HA, HK1, HB⟩ := hrel
 cases gk with
 | zero => exact absurd HA.out (by simp [ct])
 | succ k1 => (
 have H := HA.out
 clear HA
 simp only [ct] at H
 refine xid H ?_ ?_ <;> clear H <;> intro c4 H
 {
 have Ad := xdt c4
 clear c4
 replace H := xbd H
 obtain ⟨⟨Ah, Ai⟩, A5, H⟩ := H
 try dsimp only at H
 refine xib H ?_ ?_ <;> clear H <;> rintro rfl H
 {
 replace H := xbd H
 obtain ⟨⟨Aj, Ak⟩, A7, H⟩ := H
 try dsimp only at H
 refine xib H ?_ ?_ <;> clear H <;> rintro rfl H
 {
 replace H := xa H
 go_wp2_with (first | ((with_reducible refine xgc (f := 74) rfl ?_); refine xca 21 Tryd.func74 (bO (w := _) (h := A5.out)) ?_; rintro w' ⟨nd, rfl⟩) | ((with_reducible refine xgc (f := 47) rfl ?_); refine xca 29 Tryd.func47 (dI (w := _) (h := A7.out)) ?_; rintro w' ⟨nd, rfl⟩))
 go_roundg k1
 case measure => have := HK1.out; omega
 case rel => exact ⟨(wrap64 (Ab + 3)), xrr, H, ⟨by have := HK1.out; omega⟩, ⟨xbl⟩⟩
 }
 refine xin H ?_; clear H; intro c9 H
 obtain ⟨Al, Am⟩ := xcp c9
 clear c9
 refine xin H ?_; clear H; intro c10 H
 obtain ⟨Af, Ag⟩ := xcp c10
 clear c10
 obtain ⟨An, Aa⟩ : ∃ j_ : ByteArray, (a2.extract (Ab : Int).toNat a2.size) = j_ := ⟨_, rfl⟩
 try (have Ac := Aa; simp only [Int.toNat_natCast] at Ac)
 first | rw [Aa] at H | simp only [Aa] at H | skip
 (try rw [Aa] at A5)
 (try rw [Aa] at A7)
 replace H := xbd H
 obtain ⟨⟨Ao, Ae, Ap⟩, A12, H⟩ := H
 try dsimp only at H
 refine xib H ?_ ?_ <;> clear H <;> rintro rfl H
 {
 replace H := xbd H
 obtain ⟨Aq, A14, H⟩ := H
 try dsimp only at H
 refine xib H ?_ ?_ <;> clear H <;> rintro rfl H
 {
 replace H := xa H
 go_wp2_with (first | ((with_reducible refine xgc (f := 74) rfl ?_); refine xca 21 Tryd.func74 (bO (w := _) (h := A5.out)) ?_; rintro w' ⟨nd, rfl⟩) | ((with_reducible refine xgc (f := 47) rfl ?_); refine xca 29 Tryd.func47 (dI (w := _) (h := A7.out)) ?_; rintro w' ⟨nd, rfl⟩) | ((with_reducible refine xgc (f := 48) rfl ?_); refine xca 39 Tryd.func48 (d9 (w := _) (h := A12.out)) ?_ (hargs := by (try simp only [xm1, xm2, xm3]); first | done | (simp only [Aa]; rfl) | rfl); rintro w16 hb; replace HB := xst hb; (try clear hb)) | (go_at_call 75; (with_reducible refine (iC (w := _) (h := A14.out)).mono ?_); rintro e w17 ⟨rfl, hb⟩; replace HB := xst hb; (try clear hb)))
 first | go_roundg k1 | (simp only [← Aa]; go_roundg k1)
 case measure => have := HK1.out; omega
 case rel => exact ⟨(wrap64 (Ab + Ae)), xrr, H, ⟨by have := HK1.out; omega⟩, ⟨xbl⟩⟩
 }
 obtain rfl := Option.some.inj H
 go_wp2_with (first | ((with_reducible refine xgc (f := 74) rfl ?_); refine xca 21 Tryd.func74 (bO (w := _) (h := A5.out)) ?_; rintro w' ⟨nd, rfl⟩) | ((with_reducible refine xgc (f := 47) rfl ?_); refine xca 29 Tryd.func47 (dI (w := _) (h := A7.out)) ?_; rintro w' ⟨nd, rfl⟩) | ((with_reducible refine xgc (f := 48) rfl ?_); refine xca 39 Tryd.func48 (d9 (w := _) (h := A12.out)) ?_ (hargs := by (try simp only [xm1, xm2, xm3]); first | done | (simp only [Aa]; rfl) | rfl); rintro w18 hb; replace HB := xst hb; (try clear hb)) | (go_at_call 75; (with_reducible refine (iC (w := _) (h := A14.out)).mono ?_); rintro e w19 ⟨rfl, hb⟩; replace HB := xst hb; (try clear hb)))
 go_ret
 exact ⟨by first | exact xrd | (simp only [← Aa]; exact xrd) | exact xre, xbl⟩
 }
 obtain rfl := Option.some.inj H
 go_wp2_with (first | ((with_reducible refine xgc (f := 74) rfl ?_); refine xca 21 Tryd.func74 (bO (w := _) (h := A5.out)) ?_; rintro w' ⟨nd, rfl⟩) | ((with_reducible refine xgc (f := 47) rfl ?_); refine xca 29 Tryd.func47 (dI (w := _) (h := A7.out)) ?_; rintro w' ⟨nd, rfl⟩) | ((with_reducible refine xgc (f := 48) rfl ?_); refine xca 39 Tryd.func48 (d9 (w := _) (h := A12.out)) ?_ (hargs := by (try simp only [xm1, xm2, xm3]); first | done | (simp only [Aa]; rfl) | rfl); rintro w20 hb; replace HB := xst hb; (try clear hb)))
 go_ret
 exact ⟨by first | exact xrd | (simp only [← Aa]; exact xrd) | exact xre, xbl⟩
 }
 obtain rfl := Option.some.inj H
 go_wp2_with (first | ((with_reducible refine xgc (f := 74) rfl ?_); refine xca 21 Tryd.func74 (bO (w := _) (h := A5.out)) ?_; rintro w' ⟨nd, rfl⟩))
 go_ret
 exact ⟨xre, xbl⟩
 }
 have Ad := xdf c4
 clear c4
 obtain rfl := Option.some.inj H
 go_wp2
 go_ret
 exact ⟨xre, xbl⟩
 )
 )
def ex (k : Nat) (a0 : Int) (a1 : Bool) (a2 : ByteArray) : Option (Bool) := (dZ k a0 a1 a2).bind fun t157 => (some (t157 == (a2.size : Int)))
theorem fA : ∀ a0 a1 a2 k, LeO (ex k a0 a1 a2) (ex (k + 1) a0 a1 a2) := by
  intro a0 a1 a2 k
  have m0 := @iD
  unfold ex
  exact xmo
theorem en (k : Nat) (a0 : Int) (a1 : Bool) (a2 : ByteArray) (r : Bool) (w : World) (h : ex k a0 a1 a2 = some r) :
    Calls Tryd.prog 71 #[.int .i64 a0, .bool a1, .string a2] w fun e w' => e = .returned (.bool r) ∧ Below w.heap.size w w' := by
 have HB := Zz.mk (Below.refl w.heap.size w)
 have H := h
 clear h
 unfold ex at H
 replace H := xbd H
 obtain ⟨t157, A4, H⟩ := H
 try dsimp only at H
 obtain rfl := Option.some.inj H
 go_enter Tryd.func71, Tryd.ntmps71
 go_wp2_with (first | ((with_reducible refine xgc (f := 65) rfl ?_); refine xca 10 Tryd.func65 (ib (w := _) (h := A4.out)) ?_; rintro w5 hb; replace HB := xst hb; (try clear hb)))
 go_ret
 exact ⟨xre, xbl⟩
def ff (a0 : ByteArray) (a1 : ByteArray) : Option (Int) := if a0.size < 4294967281 then some (Go.Lib.index a0.data.toList a1.data.toList) else none
theorem b5 (a0 : ByteArray) (a1 : ByteArray) (r : Int) (w : World) (hG : GW w) (h : ff a0 a1 = some r) :
    Calls Tryd.prog 43 #[.string a0, .string a1] w fun e w' => e = .returned (.int .i64 r) ∧ Drawn0 w w' := by
 unfold ff at h
 by_cases hs : a0.size < 4294967281
 · rw [if_pos hs] at h
   obtain rfl := Option.some.inj h
   obtain ⟨m, hm⟩ := hG.maxLen
   refine (Tryd.stringslite_Index a0 a1 m w hs hm).mono ?_
   rintro e w' ⟨rfl, rfl⟩
   exact ⟨rfl, Drawn0.refl _⟩
 · rw [if_neg hs] at h; cases h
def fN (a0 : ByteArray) (a1 : ByteArray) : Option (ByteArray × ByteArray × Bool) := (ff a0 a1).bind fun t158 => (if t158 ≥ 0 then (if 0 ≤ t158 then (if t158 ≤ (a0.size : Int) then (if 0 ≤ (wrap64 (t158 + (a1.size : Int))) then (if (wrap64 (t158 + (a1.size : Int))) ≤ (a0.size : Int) then (some (a0.extract 0 (t158 : Int).toNat, a0.extract ((wrap64 (t158 + (a1.size : Int))) : Int).toNat a0.size, true)) else (none)) else (none)) else (none)) else (none)) else (some (a0, (⟨#[]⟩ : ByteArray), false)))
theorem i1 (a0 : ByteArray) (a1 : ByteArray) (r1 : ByteArray) (r2 : ByteArray) (r3 : Bool) (w : World) (hG : GW w) (h : fN a0 a1 = some (r1, r2, r3)) :
    Calls Tryd.prog 31 #[.string a0, .string a1] w fun e w' => e = .returned (.tuple #[.string r1, .string r2, .bool r3]) ∧ Drawn0 w w' := by
 have H := h
 clear h
 unfold fN at H
 replace H := xbd H
 obtain ⟨Aa, A3, H⟩ := H
 try dsimp only at H
 refine xid H ?_ ?_ <;> clear H <;> intro c4 H
 {
 have Af := xdt c4
 clear c4
 refine xin H ?_; clear H; intro c5 H
 obtain ⟨Ak, Al⟩ := xcp c5
 clear c5
 refine xin H ?_; clear H; intro c6 H
 obtain ⟨Am, An⟩ := xcp c6
 clear c6
 obtain ⟨Ar, Ac⟩ : ∃ j_ : ByteArray, (a0.extract 0 (Aa : Int).toNat) = j_ := ⟨_, rfl⟩
 try (have Ae := Ac; simp only [Int.toNat_natCast] at Ae)
 first | rw [Ac] at H | simp only [Ac] at H | skip
 (try rw [Ac] at A3)
 obtain ⟨Ag, Ad⟩ : ∃ j_ : Int, (wrap64 (Aa + (a1.size : Int))) = j_ := ⟨_, rfl⟩
 first | rw [Ad] at H | simp only [Ad] at H | skip
 (try rw [Ad] at A3)
 have Ah : (IntKind.i64.wrap (Aa + (a1.size : Int))) = Ag := (an _).trans Ad
 refine xin H ?_; clear H; intro c9 H
 obtain ⟨Ao, Ap⟩ := xcp c9
 clear c9
 refine xin H ?_; clear H; intro c10 H
 obtain ⟨Ai, Aj⟩ := xcp c10
 clear c10
 obtain ⟨Aq, Ab⟩ : ∃ j_ : ByteArray, (a0.extract ((Ag) : Int).toNat a0.size) = j_ := ⟨_, rfl⟩
 first | rw [Ab] at H | simp only [Ab] at H | skip
 (try rw [Ab] at A3)
 simp only [Option.some.injEq, Prod.mk.injEq] at H
 obtain ⟨rfl, rfl, rfl⟩ := H
 go_enter Tryd.func31, Tryd.ntmps31
 go_wp2_with (first | (go_at_call 43; (with_reducible refine (b5 a0 a1 Aa _ ?side1 A3.out).mono ?_); (case side1 => first | (with_reducible exact hG) | exact ja hG (by repeat (first | exact Drawn0.refl _ | apply Drawn0.step))); rintro e w' ⟨rfl, ⟨nd, rfl⟩⟩; (try exact xdd)))
 repeat (go_quiet (first | (go_at_call 43; (with_reducible refine (b5 a0 a1 Aa _ ?side1 A3.out).mono ?_); (case side1 => first | (with_reducible exact hG) | exact ja hG (by repeat (first | exact Drawn0.refl _ | apply Drawn0.step))); rintro e w' ⟨rfl, ⟨nd, rfl⟩⟩; (try exact xdd))); try go_wp2_with (first | (go_at_call 43; (with_reducible refine (b5 a0 a1 Aa _ ?side1 A3.out).mono ?_); (case side1 => first | (with_reducible exact hG) | exact ja hG (by repeat (first | exact Drawn0.refl _ | apply Drawn0.step))); rintro e w' ⟨rfl, ⟨nd, rfl⟩⟩; (try exact xdd))))
 go_ret3
 exact ⟨by first | exact xrs | (simp only [← Ac, ← Ad, ← Ab] <;> (first | rfl | simp)) | exact xrr, xdr⟩
 }
 have Af := xdf c4
 clear c4
 simp only [Option.some.injEq, Prod.mk.injEq] at H
 obtain ⟨rfl, rfl, rfl⟩ := H
 go_enter Tryd.func31, Tryd.ntmps31
 go_wp2_with (first | (go_at_call 43; (with_reducible refine (b5 a0 a1 Aa _ ?side1 A3.out).mono ?_); (case side1 => first | (with_reducible exact hG) | exact ja hG (by repeat (first | exact Drawn0.refl _ | apply Drawn0.step))); rintro e w' ⟨rfl, ⟨nd, rfl⟩⟩; (try exact xdd)))
 repeat (go_quiet (first | (go_at_call 43; (with_reducible refine (b5 a0 a1 Aa _ ?side1 A3.out).mono ?_); (case side1 => first | (with_reducible exact hG) | exact ja hG (by repeat (first | exact Drawn0.refl _ | apply Drawn0.step))); rintro e w' ⟨rfl, ⟨nd, rfl⟩⟩; (try exact xdd))); try go_wp2_with (first | (go_at_call 43; (with_reducible refine (b5 a0 a1 Aa _ ?side1 A3.out).mono ?_); (case side1 => first | (with_reducible exact hG) | exact ja hG (by repeat (first | exact Drawn0.refl _ | apply Drawn0.step))); rintro e w' ⟨rfl, ⟨nd, rfl⟩⟩; (try exact xdd))))
 go_ret3
 exact ⟨xrr, xdr⟩
def bQ (a0 : ByteArray) (a1 : ByteArray) : Option (ByteArray × ByteArray × Bool) := (fN a0 a1).bind fun bt159 => (some (bt159.1, bt159.2.1, bt159.2.2))
theorem bh (a0 : ByteArray) (a1 : ByteArray) (r1 : ByteArray) (r2 : ByteArray) (r3 : Bool) (w : World) (hG : GW w) (h : bQ a0 a1 = some (r1, r2, r3)) :
    Calls Tryd.prog 16 #[.string a0, .string a1] w fun e w' => e = .returned (.tuple #[.string r1, .string r2, .bool r3]) ∧ Drawn0 w w' := by
 have H := h
 clear h
 unfold bQ at H
 replace H := xbd H
 obtain ⟨⟨t159, t160, t161⟩, A3, H⟩ := H
 try dsimp only at H
 simp only [Option.some.injEq, Prod.mk.injEq] at H
 obtain ⟨rfl, rfl, rfl⟩ := H
 go_enter Tryd.func16, Tryd.ntmps16
 go_wp2_with (first | ((with_reducible refine xgc (f := 31) rfl ?_); refine xgl 9 Tryd.func31 #[.string a0, .string a1] ?_; (with_reducible refine (i1 a0 a1 t159 t160 t161 _ ?side1 A3.out).mono ?_); (case side1 => first | (with_reducible exact hG) | exact ja hG (by repeat (first | exact Drawn0.refl _ | apply Drawn0.step))); rintro e w' ⟨rfl, ⟨nd, rfl⟩⟩; refine ⟨_, rfl, ?_⟩))
 go_ret3
 exact ⟨xrr, xdr⟩
def fl (a0 : ByteArray) (a1 : ByteArray) : Option (List ByteArray) := if a0.size < 4294967281 ∧ 1 ≤ a1.size then some (Go.Lib.splitB a1 0 (Go.Lib.countB a0 a1) a0) else none
theorem fe (a0 : ByteArray) (a1 : ByteArray) (r : List ByteArray) (w : World) (hG : GW w) (h : fl a0 a1 = some r) :
    Calls Tryd.prog 85 #[.string a0, .string a1] w fun e w' => ∃ v0_ : Value, e = .returned (v0_) ∧ Kd.R Kd.string 9 w' w.heap.size (fun _ => True) v0_ r ∧ Below w.heap.size w w' := by
 unfold fl at h
 by_cases hs : a0.size < 4294967281 ∧ 1 ≤ a1.size
 · rw [if_pos hs] at h
   obtain rfl := Option.some.inj h
   obtain ⟨m, hm⟩ := hG.maxLen
   refine (Tryd.strings_Split a0 a1 m w hs.1 hm hs.2).mono ?_
   rintro e w' ⟨rfl, rfl⟩
   have hl := Go.Lib.splitB_all a1 hs.2 0 _ a0 rfl
   have hc := Go.Lib.countB_le a1 hs.2 a0.size a0 (Nat.le_refl _)
   refine ⟨_, rfl, ?_, (Below.refl _ _).alloc (Nat.le_refl _) _⟩
   refine Kd.R_of_own ⟨by simp [gB], .inr ⟨w.heap.size, _, _, by rw [hl], Nat.le_refl _, heap_alloc_new _ _, by rw [hl]; exact Nat.le_refl _, ?_, ?_, ?_⟩⟩ (fun _ _ => trivial)
   · have : maxLen = 9223372036854775807 := rfl
     omega
   · simp [hl]
   · simp only [gB, Nat.mul_one, List.toList_toArray]
     exact List.take_of_length_le (by simp)
 · rw [if_neg hs] at h; cases h
mutual
def cb : Nat → ByteArray → Bool → Option (Int × Bool)
  | 0, _, _ => none
  | k + 1, x0, x23 => if x23 = true then (some (0, false)) else (cJ k x0 0 (x0.size : Int) 0)
def cJ : Nat → ByteArray → Int → Int → Int → Option (Int × Bool)
  | 0, _, _, _, _ => none
  | k + 1, x0, x4, x25, x26 => if x26 < x25 then (if 0 ≤ x26 then (if x26 < (x0.size : Int) then ((cM k (bt x0 x26) 2).bind fun t162 => (if t162 = true then (cJ k x0 (wrap64 ((wrap64 (10 * x4)) + (((bt x0 x26) - 48) % 256))) x25 (wrap64 (x26 + 1))) else (some (0, false)))) else (none)) else (none)) else (some ((x4) % 256, decide (x4 ≤ 255)))
end
def eD (k : Nat) (a0 : ByteArray) : Option (Int × Bool) := if (a0.size : Int) = 0 then (cb k a0 true) else (if (a0.size : Int) > 3 then (cb k a0 true) else (if (a0.size : Int) > 1 then (if 0 < (a0.size : Int) then (cb k a0 ((bt a0 0) == 48)) else (none)) else (cb k a0 false)))
theorem gU : ∀ k, (∀ y0 y1, LeO (cb k y0 y1) (cb (k + 1) y0 y1)) ∧ (∀ y0 y1 y2 y3, LeO (cJ k y0 y1 y2 y3) (cJ (k + 1) y0 y1 y2 y3))
  | 0 => ⟨fun _ _ r h => by simp [cb] at h, fun _ _ _ _ r h => by simp [cJ] at h⟩
  | k + 1 => by
    obtain ⟨ih0, ih1⟩ := gU k
    have m0 := @cd
    refine ⟨?_, ?_⟩
    · intro y0 y1
      unfold cb
      exact xmo
    · intro y0 y1 y2 y3
      unfold cJ
      exact xmo
theorem iA : ∀ a0 k, LeO (eD k a0) (eD (k + 1) a0) := by
  intro a0 k
  obtain ⟨ih0, ih1⟩ := gU k
  have m0 := @cd
  unfold eD
  exact xmo
theorem dY (k : Nat) (a0 : ByteArray) (r1 : Int) (r2 : Bool) (w : World) (h : eD k a0 = some (r1, r2)) :
    Calls Tryd.prog 86 #[.string a0] w fun e w' => e = .returned (.tuple #[.int .u8 r1, .bool r2]) ∧ Drawn0 w w' := by
 have H := h
 clear h
 unfold eD at H
 have Af := Zz.mk H
 clear H
 go_enter Tryd.func86, Tryd.ntmps86
 go_upto_region 1 with (fail)
 go_cut [23] (fun v23 wc => ∃ kq Ab, v23 = .bool Ab ∧ Zz (cb kq a0 Ab = some (r1, r2)) ∧ Zz (kq ≤ k) ∧ Drawn0 w wc)
 case first => (
 have H := Af.out
 clear Af
 refine xid H ?_ ?_ <;> clear H <;> intro c3 H
 {
 obtain ⟨Ac, Ae⟩ := xqe c3
 clear c3
 (first | rw [Ac] | (simp only [an, au]; rw [Ac]) | (rw [Ag]; (try simp only [Bool.not_false, Bool.not_true])) | (rw [Ah]; (try simp only [Bool.not_false, Bool.not_true])) | rw [Ae] | skip)
 replace H := xa H
 go_wp2
 go_meet
 case rel => exact ⟨_, (true), xrr, H, ⟨xom⟩, xdr⟩
 }
 obtain ⟨Ac, Ae⟩ := xqn c3
 (first | rw [Ac] | (simp only [an, au]; rw [Ac]) | (rw [Ag]; (try simp only [Bool.not_false, Bool.not_true])) | (rw [Ah]; (try simp only [Bool.not_false, Bool.not_true])) | rw [Ae] | skip)
 refine xid H ?_ ?_ <;> clear H <;> intro c4 H
 {
 have Ai := xdt c4
 have Aj : decide (3 < a0.size) = true := decide_eq_true (by omega)
 clear c4
 replace H := xa H
 go_wp2
 go_meet
 case rel => exact ⟨_, (true), xrr, H, ⟨xom⟩, xdr⟩
 }
 have Ai := xdf c4
 have Aj : decide (3 < a0.size) = false := decide_eq_false (by omega)
 clear c4
 refine xid H ?_ ?_ <;> clear H <;> intro c5 H
 {
 have Ak := xdt c5
 have Al : decide (1 < a0.size) = true := decide_eq_true (by omega)
 clear c5
 refine xin H ?_; clear H; intro c6 H
 have Ap := xdt c6
 have Aq : decide (0 < a0.size) = true := decide_eq_true (by omega)
 clear c6
 replace H := xa H
 obtain ⟨q7, As, hx7⟩ := xi0 a0 xod
 go_wp2
 go_meet
 case rel => exact ⟨_, (((bt a0 0) == 48)), xrr, H, ⟨xom⟩, xdr⟩
 }
 have Ak := xdf c5
 have Al : decide (1 < a0.size) = false := decide_eq_false (by omega)
 clear c5
 replace H := xa H
 go_wp2
 go_meet
 case rel => exact ⟨_, (false), xrr, H, ⟨xom⟩, xdr⟩
 )
 case rest => (
 clear Af
 obtain ⟨kq, Ab, rfl, HA, HJ1, ⟨mc1, rfl⟩⟩ := hcut
 cases kq with
 | zero => exact absurd HA.out (by simp [cb])
 | succ kj1 => (
 have H := HA.out
 clear HA
 simp only [cb] at H
 refine xib H ?_ ?_ <;> clear H <;> rintro rfl H
 {
 simp only [Option.some.injEq, Prod.mk.injEq] at H
 obtain ⟨rfl, rfl⟩ := H
 go_wp2
 go_ret2
 exact ⟨xrr, xdr⟩
 }
 have H' := Zz.mk H
 clear H
 go_wp2
 go_loopg [4, 26] kj1 (fun kq v4 v26 w' => ∃ Ad Aa, v4 = .int .i64 Ad ∧ v26 = .int .i64 Aa ∧ Zz (cJ kq a0 Ad (a0.size : Int) Aa = some (r1, r2)) ∧ Zz (kq ≤ kj1) ∧ Drawn0 w w')
 case atStart => exact ⟨(0), (0), xrr, xrr, H', ⟨Nat.le_refl _⟩, xdr⟩
 case round => (
 clear H'
 obtain ⟨Ad, Aa, rfl, rfl, HA, HK2, ⟨m2, rfl⟩⟩ := hrel
 cases gk with
 | zero => exact absurd HA.out (by simp [cJ])
 | succ k2 => (
 have H := HA.out
 clear HA
 simp only [cJ] at H
 refine xid H ?_ ?_ <;> clear H <;> intro c9 H
 {
 have Am := xdt c9
 clear c9
 refine xin H ?_; clear H; intro c10 H
 have An := xdt c10
 clear c10
 refine xin H ?_; clear H; intro c11 H
 have Ao := xdt c11
 clear c11
 replace H := xbd H
 obtain ⟨Ar, A13, H⟩ := H
 try dsimp only at H
 refine xib H ?_ ?_ <;> clear H <;> rintro rfl H
 {
 replace H := xa H
 obtain ⟨p12, q12, hx12⟩ := xiv a0 Aa xod xod
 go_wp2_with (first | ((with_reducible refine xgc (f := 32) rfl ?_); refine xca 32 Tryd.func32 (be (w := _) (h := A13.out)) ?_; rintro w' ⟨nd, rfl⟩; obtain ⟨p15, q15, hx15⟩ := xiv a0 Aa xod xod))
 go_roundg k2
 case measure => have := HJ1.out; have := HK2.out; omega
 case rel => exact ⟨(wrap64 ((wrap64 (10 * Ad)) + (((bt a0 Aa) - 48) % 256))), (wrap64 (Aa + 1)), xrr, xrr, H, ⟨by have := HJ1.out; have := HK2.out; omega⟩, xdr⟩
 }
 simp only [Option.some.injEq, Prod.mk.injEq] at H
 obtain ⟨rfl, rfl⟩ := H
 obtain ⟨p12, q12, hx12⟩ := xiv a0 Aa xod xod
 go_wp2_with (first | ((with_reducible refine xgc (f := 32) rfl ?_); refine xca 32 Tryd.func32 (be (w := _) (h := A13.out)) ?_; rintro w' ⟨nd, rfl⟩))
 go_ret2
 exact ⟨xrr, xdr⟩
 }
 have Am := xdf c9
 clear c9
 simp only [Option.some.injEq, Prod.mk.injEq] at H
 obtain ⟨rfl, rfl⟩ := H
 go_wp2
 go_ret2
 exact ⟨xrr, xdr⟩
 )
 )
 )
 )
end Go.Proofs.YtojdiklegmhakaaDoor.X
