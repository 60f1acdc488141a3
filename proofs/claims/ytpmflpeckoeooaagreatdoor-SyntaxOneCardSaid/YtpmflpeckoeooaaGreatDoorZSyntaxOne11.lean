/- Texts that the law's proof needs, joined by a program of this session. -/
import Derived.Test.YtpmflpeckoeooaaGreatDoorZSyntaxOne1
import Derived.Test.YtpmflpeckoeooaaGreatDoorZSyntaxOne6
import Derived.Test.YtpmflpeckoeooaaGreatDoorZSyntaxOne7
import Derived.Test.YtpmflpeckoeooaaGreatDoorZSyntaxOne10
set_option maxHeartbeats 8000000
set_option maxRecDepth 100000
namespace Go.Proofs.YtpmflpeckoeooaaGreatDoor.X
open Go.RowKit Go.Proofs.YtpmflpeckoeooaaGreatDoorW.PrintWords Go.Proofs.YtpmflpeckoeooaaGreatDoorW.PrintLast Go.Proofs.YtpmflpeckoeooaaGreatDoorW.PrintMore
attribute [local go_sem] dK cY fS ip cT gD cg gy gA ik il fL fM gz gB
set_option linter.unusedVariables false
set_option linter.unusedSimpArgs false
mutual
def dF : Nat → Int → ByteArray → List (S24) → Bool → ByteArray → Bool → ByteArray → ByteArray → Bool → ByteArray → Bool → ByteArray → Option ((List (S24)))
  | 0, _, _, _, _, _, _, _, _, _, _, _, _ => none
  | k + 1, x0, x2, x7, Ai, Aa, Ab, Ac, Ad, Ae, Af, Ag, Ah => if Ai = true then (some x7) else (ct k x0 x2 x7 2 Aa Ab Ac Ad Ae Af Ag Ah)
def ct : Nat → Int → ByteArray → List (S24) → Int → ByteArray → Bool → ByteArray → ByteArray → Bool → ByteArray → Bool → ByteArray → Option ((List (S24)))
  | 0, _, _, _, _, _, _, _, _, _, _, _, _ => none
  | k + 1, x0, x2, x7, x8, Aa, Ag, Ah, Ab, Ac, Ad, Ae, Af => if x8 ≤ (x2.size : Int) then (if 2 ≤ x8 then (if 0 ≤ x8 then ((eW k x0 Aa true (x2.extract 2 (x8 : Int).toNat) Ab Ac Ad Ae Af (x2.extract (x8 : Int).toNat x2.size)).bind fun Ai => (if x7.length + Ai.length < 1353245080339 then (ct k x0 x2 (x7 ++ Ai) (wrap64 (x8 + 1)) Aa Ag Ah Ab Ac Ad Ae Af) else (none))) else (none)) else (none)) else (some x7)
end
def eV (k : Nat) (a0 : Int) (Aa : ByteArray) (Ab : Bool) (Ac : ByteArray) (Ad : ByteArray) (Ae : Bool) (Af : ByteArray) (Ag : Bool) (Ah : ByteArray) (a2 : ByteArray) : Option ((List (S24))) := (eW k a0 Aa Ab Ac Ad Ae Af Ag Ah a2).bind fun Ai => (if (a2.size : Int) < 2 then (dF k a0 a2 Ai true Aa Ab Ac Ad Ae Af Ag Ah) else (if 0 ≤ 2 then (if 2 ≤ (a2.size : Int) then (dF k a0 a2 Ai ((a2.extract 0 2).toList != ([47, 47] : List UInt8)) Aa Ab Ac Ad Ae Af Ag Ah) else (none)) else (none)))
theorem jV (k : Nat) (a0 : Int) (Ab : ByteArray) (Aj : Bool) (Ak : ByteArray) (Ac : ByteArray) (Ad : Bool) (Ae : ByteArray) (Af : Bool) (Ag : ByteArray) (a2 : ByteArray) (r : List (S24)) (w : World) (h : eV k a0 Ab Aj Ak Ac Ad Ae Af Ag a2 = some r) :
    Calls Tryz.prog 21 #[.int .i64 a0, .agg #[.string Ab, .bool Aj, .string Ak, .string Ac, .bool Ad, .string Ae, .bool Af, .string Ag], .string a2] w fun e w' => ∃ v0_ : Value, e = .returned (v0_) ∧ Kd.R k24 24 w' w.heap.size (fun _ => True) v0_ r ∧ Below w.heap.size w w' := by
 have hu24 := Tryz.underlying24
 have HB := Zz.mk (Below.refl w.heap.size w)
 have H := h
 clear h
 unfold eV at H
 replace H := xbd H
 obtain ⟨AA, A4, H⟩ := H
 try dsimp only at H
 have AI := Zz.mk H
 clear H
 go_enter Tryz.func21, Tryz.ntmps21
 go_upto_region 2 with (first | ((with_reducible refine aj (N := 4) rfl ?_); refine xew 4 ?_; intro Ah w6 Ai AM hb hg; replace HB := xst hb; clear hb hg; have A0 := xz8 Ai.out) | ((with_reducible refine xgc (f := 35) rfl ?_); refine xgl 13 Tryz.func35 #[.int .i64 a0, .agg #[.string Ab, .bool Aj, .string Ak, .string Ac, .bool Ad, .string Ae, .bool Af, .string Ag], .string a2] ?_; (with_reducible refine (jW (w := _) (h := A4.out)).mono ?_); rintro e w8 ⟨v703, rfl, ho0, hb⟩; refine ⟨_, rfl, ?_⟩; have Az := Zz.mk (Kd.R_lower (Kd.R_newB ho0 (g := Ah) (o := .cells #[.string Ab, .bool Aj, .string Ak, .string Ac, .bool Ad, .string Ae, .bool Af, .string Ag] 24 (0, 0)) xbk) (ar xbl)); replace Ai := xbq Ah hb; replace HB := xst hb; (try clear hb); (try clear ho0)))
 (try simp only [Act.put, xl1, xl2, xl3])
 go_cut [21] (fun v21 wc => ∃ kq Aw, v21 = .bool Aw ∧ Zz (dF kq a0 a2 AA Aw Ab Aj Ak Ac Ad Ae Af Ag = some r) ∧ Zz (kq ≤ k) ∧ Zz (Kd.R k24 24 wc w.heap.size (fun k_ => k_ ≠ Ah) v703 AA) ∧ Zz (wc.heap[Ah]? = some (.cells #[.string Ab, .bool Aj, .string Ak, .string Ac, .bool Ad, .string Ae, .bool Af, .string Ag] 24 (0, 0))) ∧ Zz (Below w.heap.size w wc))
 case first => (
 have H := AI.out
 clear AI
 refine xid H ?_ ?_ <;> clear H <;> intro c9 H
 {
 have Ax := xdt c9
 have AJ : decide (a2.size < 2) = true := decide_eq_true (by omega)
 clear c9
 (first | rw [Ax] | (simp only [ao, aq]; rw [Ax]) | skip)
 replace H := xa H
 go_wp2
 go_meet
 case rel => exact ⟨_, (true), xrr, H, ⟨xom⟩, ⟨by (with_reducible repeat (first | apply Kd.R_alloc | apply Kd.R_drewN | apply Kd.R_drew)); exact Kd.R_mono Az.out (fun _ hk => hk.2)⟩, ⟨xbk⟩, ⟨xbl⟩⟩
 }
 have Ax := xdf c9
 have AJ : decide (a2.size < 2) = false := decide_eq_false (by omega)
 clear c9
 (first | rw [Ax] | (simp only [ao, aq]; rw [Ax]) | skip)
 rw [if_pos (by decide)] at H
 refine xin H ?_; clear H; intro c10 H
 obtain ⟨AN, AO⟩ := xcp c10
 clear c10
 obtain ⟨AK, Ay⟩ : ∃ j_ : ByteArray, (a2.extract 0 2) = j_ := ⟨_, rfl⟩
 first | rw [Ay] at H | simp only [Ay] at H | skip
 replace H := xa H
 go_wp2
 go_meet
 case rel => exact ⟨_, (((AK).toList != ([47, 47] : List UInt8))), (by first | exact xrs | (simp only [← Ay] <;> (first | rfl | simp)) | exact xrr), H, ⟨xom⟩, ⟨by (with_reducible repeat (first | apply Kd.R_alloc | apply Kd.R_drewN | apply Kd.R_drew)); exact Kd.R_mono Az.out (fun _ hk => hk.2)⟩, ⟨xbk⟩, ⟨xbl⟩⟩
 )
 case rest => (
 clear AI
 obtain ⟨kq, Aw, rfl, HA, HJ4, Al, Ai, HB⟩ := hcut
 cases kq with
 | zero => exact absurd HA.out (by simp [dF])
 | succ kj4 => (
 have H := HA.out
 clear HA
 simp only [dF] at H
 refine xib H ?_ ?_ <;> clear H <;> rintro rfl H
 {
 obtain rfl := Option.some.inj H
 go_wp2
 go_ret
 exact ⟨_, by first | rfl | (simp [br, bs] <;> first | rfl | (simp only [dw, bne, Bool.not_not]; done)) | (simp [*, br, bs] <;> rfl), by (with_reducible repeat (first | apply Kd.R_alloc | apply Kd.R_drewN | apply Kd.R_drew)); exact Kd.R_mono Al.out (fun _ hk => trivial), xbl⟩
 }
 have H' := Zz.mk H
 clear H
 go_wp2
 go_loopg [7, 8] kj4 (fun kq v7 v8 w' => ∃ (At : List (S24)) (Ar : Int), v8 = .int .i64 Ar ∧ Zz (ct kq a0 a2 At Ar Ab Aj Ak Ac Ad Ae Af Ag = some r) ∧ Zz (kq ≤ kj4) ∧ Zz (Kd.R k24 24 w' w.heap.size (fun k_ => k_ ≠ Ah) v7 At) ∧ Zz (w'.heap[Ah]? = some (.cells #[.string Ab, .bool Aj, .string Ak, .string Ac, .bool Ad, .string Ae, .bool Af, .string Ag] 24 (0, 0))) ∧ Zz (Below w.heap.size w w'))
 case atStart => exact ⟨(AA), (2), xrr, H', ⟨Nat.le_refl _⟩, ⟨xkd Al⟩, ⟨xbk⟩, ⟨xbl⟩⟩
 case round => (
 clear H'
 obtain ⟨At, Ar, rfl, HA, HK2, Al, Ai, HB⟩ := hrel
 cases gk with
 | zero => exact absurd HA.out (by simp [ct])
 | succ k2 => (
 have H := HA.out
 clear HA
 simp only [ct] at H
 refine xid H ?_ ?_ <;> clear H <;> intro c13 H
 {
 have AE := xdt c13
 clear c13
 refine xin H ?_; clear H; intro c14 H
 obtain ⟨AP, AQ⟩ := xcp c14
 clear c14
 have AR := eq_true (xod : Ar ≤ (a2.size : Int))
 obtain ⟨An, Ao⟩ : ∃ j_ : ByteArray, (a2.extract 2 (Ar : Int).toNat) = j_ := ⟨_, rfl⟩
 try (have AB := Ao; simp only [Int.toNat_natCast] at AB)
 first | rw [Ao] at H | simp only [Ao] at H | skip
 refine xin H ?_; clear H; intro c17 H
 obtain ⟨AS, AT⟩ := xcp c17
 clear c17
 have AU := eq_true (xod : Ar ≤ (a2.size : Int))
 obtain ⟨AL, Ap⟩ : ∃ j_ : ByteArray, (a2.extract (Ar : Int).toNat a2.size) = j_ := ⟨_, rfl⟩
 try (have AC := Ap; simp only [Int.toNat_natCast] at AC)
 first | rw [Ap] at H | simp only [Ap] at H | skip
 replace H := xbd H
 obtain ⟨AD, A20, H⟩ := H
 try dsimp only at H
 refine xin H ?_; clear H; intro c21 H
 have LMc21 := Zz.mk c21
 clear c21
 obtain ⟨AF, As⟩ : ∃ y_ : List (S24), y_ = (At ++ AD) := ⟨_, rfl⟩
 replace H : (ct k2 a0 a2 AF (wrap64 (Ar + 1)) Ab Aj Ak Ac Ad Ae Af Ag) = some r := by first | (rw [As]; with_reducible exact H) | (have H2_ := (Option.bind_some _ _).symm.trans H; rw [As]; with_reducible exact H2_) | (have H2_ := (Option.bind_some _ _).symm.trans H; with_reducible exact H2_) | with_reducible exact H | (rw [As]; exact H) | exact H
 have AG := Zz.mk As
 clear As
 replace H := xa H
 have AY := xz8 Ai.out
 try go_wp2_with (first | ((with_reducible refine aj (N := 9) rfl ?_); refine xew 9 ?_; intro Aa w23 Am AV hb hg; have Au := xlt (g := Ah) hg; have Av := xgt (g := Ah) hg; replace Al := Zz.mk (Kd.R_below (Kd.R_elderB (xkd Al) Aa (Nat.le_of_eq hg.symm)) hb); replace Ai := xbq Ah hb; replace HB := xst hb; clear hb hg; have AW := Av.out; have AX := Au.out; have AZ := xz8 Am.out))
 have n0_ : Zz (Kd.R k24 24 ((((((((((w23.setCell ⟨Aa, 0, none⟩ (.string Ab)).setCell ⟨Aa, 1, none⟩ (.bool Aj)).setCell ⟨Aa, 2, none⟩ (.string Ak)).setCell ⟨Aa, 3, none⟩ (.string Ac)).setCell ⟨Aa, 4, none⟩ (.bool Ad)).setCell ⟨Aa, 5, none⟩ (.string Ae)).setCell ⟨Aa, 6, none⟩ (.bool Af)).setCell ⟨Aa, 7, none⟩ (.string Ag)).setCell ⟨Aa, 1, none⟩ (.bool true)).setCell ⟨Aa, 2, none⟩ (.string An)) w.heap.size (fun k_ => k_ ≠ Ah ∧ k_ ≠ Aa) u7 At) := ⟨by (with_reducible repeat (first | apply Kd.R_alloc | apply Kd.R_drewN | apply Kd.R_drew)); exact Kd.R_mono (Kd.R_far (p := ⟨Aa, 2, none⟩) (Kd.R_far (p := ⟨Aa, 1, none⟩) (Kd.R_far (p := ⟨Aa, 7, none⟩) (Kd.R_far (p := ⟨Aa, 6, none⟩) (Kd.R_far (p := ⟨Aa, 5, none⟩) (Kd.R_far (p := ⟨Aa, 4, none⟩) (Kd.R_far (p := ⟨Aa, 3, none⟩) (Kd.R_far (p := ⟨Aa, 2, none⟩) (Kd.R_far (p := ⟨Aa, 1, none⟩) (Kd.R_far (p := ⟨Aa, 0, none⟩) (Kd.R_mono Al.out (fun k_ hk => (⟨hk, hk.2⟩ : _ ∧ k_ ≠ Aa))) (fun _ hk => hk.2) (.string Ab)) (fun _ hk => hk.2) (.bool Aj)) (fun _ hk => hk.2) (.string Ak)) (fun _ hk => hk.2) (.string Ac)) (fun _ hk => hk.2) (.bool Ad)) (fun _ hk => hk.2) (.string Ae)) (fun _ hk => hk.2) (.bool Af)) (fun _ hk => hk.2) (.string Ag)) (fun _ hk => hk.2) (.bool true)) (fun _ hk => hk.2) (.string An)) (fun _ hk => ⟨hk.1.1, hk.1.2⟩)⟩
 have n1_ : Zz (((((((((((w23.setCell ⟨Aa, 0, none⟩ (.string Ab)).setCell ⟨Aa, 1, none⟩ (.bool Aj)).setCell ⟨Aa, 2, none⟩ (.string Ak)).setCell ⟨Aa, 3, none⟩ (.string Ac)).setCell ⟨Aa, 4, none⟩ (.bool Ad)).setCell ⟨Aa, 5, none⟩ (.string Ae)).setCell ⟨Aa, 6, none⟩ (.bool Af)).setCell ⟨Aa, 7, none⟩ (.string Ag)).setCell ⟨Aa, 1, none⟩ (.bool true)).setCell ⟨Aa, 2, none⟩ (.string An)).heap[Ah]? = some (.cells #[.string Ab, .bool Aj, .string Ak, .string Ac, .bool Ad, .string Ae, .bool Af, .string Ag] 24 (0, 0))) := ⟨xbK⟩
 have n2_ : Zz (((((((((((w23.setCell ⟨Aa, 0, none⟩ (.string Ab)).setCell ⟨Aa, 1, none⟩ (.bool Aj)).setCell ⟨Aa, 2, none⟩ (.string Ak)).setCell ⟨Aa, 3, none⟩ (.string Ac)).setCell ⟨Aa, 4, none⟩ (.bool Ad)).setCell ⟨Aa, 5, none⟩ (.string Ae)).setCell ⟨Aa, 6, none⟩ (.bool Af)).setCell ⟨Aa, 7, none⟩ (.string Ag)).setCell ⟨Aa, 1, none⟩ (.bool true)).setCell ⟨Aa, 2, none⟩ (.string An)).heap[Aa]? = some (.cells #[.string Ab, .bool true, .string An, .string Ac, .bool Ad, .string Ae, .bool Af, .string Ag] 24 (0, 0))) := ⟨xbK⟩
 have n3_ : Zz (Below w.heap.size w ((((((((((w23.setCell ⟨Aa, 0, none⟩ (.string Ab)).setCell ⟨Aa, 1, none⟩ (.bool Aj)).setCell ⟨Aa, 2, none⟩ (.string Ak)).setCell ⟨Aa, 3, none⟩ (.string Ac)).setCell ⟨Aa, 4, none⟩ (.bool Ad)).setCell ⟨Aa, 5, none⟩ (.string Ae)).setCell ⟨Aa, 6, none⟩ (.bool Af)).setCell ⟨Aa, 7, none⟩ (.string Ag)).setCell ⟨Aa, 1, none⟩ (.bool true)).setCell ⟨Aa, 2, none⟩ (.string An))) := ⟨xbl⟩
 (try clear Al)
 (try clear Ai)
 (try clear Am)
 (try clear HB)
 try simp only [Ao]
 try (have hx_ := Ao; simp only [Int.toNat_natCast] at hx_; simp only [hx_]; clear hx_)
 try simp only [Ap]
 try (have hx_ := Ap; simp only [Int.toNat_natCast] at hx_; simp only [hx_]; clear hx_)
 try simp only [show ∀ (w_ : World) (n_ : Nat) (a_ : Addr) (v_ : Value), (w_.drewN n_).setCell a_ v_ = (w_.setCell a_ v_).drewN n_ from fun _ _ _ _ => rfl]
 generalize ((((((((((w23.setCell ⟨Aa, 0, none⟩ (.string Ab)).setCell ⟨Aa, 1, none⟩ (.bool Aj)).setCell ⟨Aa, 2, none⟩ (.string Ak)).setCell ⟨Aa, 3, none⟩ (.string Ac)).setCell ⟨Aa, 4, none⟩ (.bool Ad)).setCell ⟨Aa, 5, none⟩ (.string Ae)).setCell ⟨Aa, 6, none⟩ (.bool Af)).setCell ⟨Aa, 7, none⟩ (.string Ag)).setCell ⟨Aa, 1, none⟩ (.bool true)).setCell ⟨Aa, 2, none⟩ (.string An)) = w26 at n0_ n1_ n2_ n3_ ⊢
 have Al := n0_
 have Ai := n1_
 have Am := n2_
 have HB := n3_
 clear n0_ n1_ n2_ n3_
 replace Al := Zz.mk (Kd.R_drew Al.out)
 replace Ai := Zz.mk (bq Ai.out)
 replace Am := Zz.mk (bq Am.out)
 replace HB := Zz.mk (aC HB.out)
 refine xsr 9 [] (xs8 Am.out) (fun hHeld => ?_)
 generalize w26.drew = w27 at Al Ai Am HB hHeld ⊢
 refine xpu 0 35 ?_
 refine xpu 1 36 ?_
 refine xpu 3 38 ?_
 refine xpu 4 39 ?_
 refine xpu 5 40 ?_
 refine xtk 2 37 ?_
 refine jl (i := 6) (N := some 41) #[true, true, true, true, true, true, true, false, false] rfl rfl (iQ rfl (by kernel_rfl)) (by decide) (fun K hK => ?_)
 refine lz Tryz.func35 (by kernel_rfl) rfl #[.int .i64 a0, .agg #[.string Ab, .bool true, .string An, .string Ac, .bool Ad, .string Ae, .bool Af, .string Ag], .string AL] (by rfl) rfl rfl (by (try simp only [List.map_toArray, List.map_cons, List.map_nil]); first | done | (simp only [Ao, Ap]; rfl) | rfl | (simp only [List.length_drop, List.length_take]; rfl)) ?_
 (with_reducible refine (jW (w := _) (h := A20.out)).mono ?_)
 rintro e w28 ⟨v707, rfl, ho0, hb⟩
 refine ⟨_, rfl, ?_⟩
 have n0_ := Zz.mk (Kd.R_elder' (xkd Al) (Kd.R_base ho0) hb)
 have n1_ := Zz.mk (Kd.R_lower (Kd.R_newB (Kd.R_newB (Kd.R_new' ho0 (Kd.R_lt (xkd Al))) (g := Ah) (o := .cells #[.string Ab, .bool Aj, .string Ak, .string Ac, .bool Ad, .string Ae, .bool Af, .string Ag] 24 (0, 0)) xbk) (g := Aa) (o := .cells #[.string Ab, .bool true, .string An, .string Ac, .bool Ad, .string Ae, .bool Af, .string Ag] 24 (0, 0)) xbk) (ar xbl))
 have n2_ := xbb (g := Ah) (o := .cells #[.string Ab, .bool Aj, .string Ak, .string Ac, .bool Ad, .string Ae, .bool Af, .string Ag] 24 (0, 0)) hb
 have n3_ := xbb (g := Aa) (o := .cells #[.string Ab, .bool true, .string An, .string Ac, .bool Ad, .string Ae, .bool Af, .string Ag] 24 (0, 0)) hb
 have n4_ := xst hb
 clear Al
 clear Ai
 clear Am
 clear HB
 have Al := n0_
 have Aq := n1_
 have Ai := n2_
 have Am := n3_
 have HB := n4_
 clear n0_ n1_ n2_ n3_ n4_
 (try clear hb)
 (try clear ho0)
 obtain ⟨Ao30, co30, eo30⟩ := Kd.R_slice Aq.out
 (first | subst eo30 | (injection eo30 with f1_ f2_ f3_; have f4_ := f1_.symm; have f5_ := f3_.symm; clear f1_ f2_ f3_; subst f4_; subst f5_))
 refine hK.out _ _ (xs8 Am.out) (fun hHeld => ?_)
 clear hK K
 refine gH (a' := ?_) ?_ ?_
 rotate_left
 {
 show Act.put _ (some 41) _ = _
 simp only [Act.put, xl1, xl2, xl3, ao, aq]
 rfl
 }
 refine jl (i := 7) (N := some 42) #[true, true, true, true, true, true, true, true, false] rfl rfl (iQ rfl (by kernel_rfl)) (by decide) (fun K hK => ?_)
 refine Kd.R_append_rows_step k24 (w0 := w) w.heap.size (by rfl) (.tmp 35) (.tmp 41) 29 24 (.agg #[(.string ⟨#[]⟩), (.bool false), (.string ⟨#[]⟩), (.string ⟨#[]⟩), (.bool false), (.string ⟨#[]⟩), (.bool false), (.string ⟨#[]⟩)]) 104 rfl Tryz.underlying29 nH rfl (by decide) (by omega) u7 At AD _ _ _ (fun k_ => some k_ ≠ (.slice Ao30 AD.length co30 : Value).ownBlock ∧ k_ ≠ Ah ∧ k_ ≠ Aa) (fun _ => False) rfl rfl ?aO ?aR (fun _ _ h => h) (fun _ h => h.elim) ?aF ?aB ?aS ?aL ?_
 (case aR => repeat (first | exact (Kd.R_reads' Aq.out).2.2 | (with_reducible refine Kd.C_alloc ?_ _) | (with_reducible refine Kd.C_drewN ?_ _) | (with_reducible refine Kd.C_drew ?_)))
 (case aB => exact xbl)
 (case aF => exact (fun k_ hk => ⟨Kd.fresh' (Kd.R_lt (xkd Aq)) k_ hk, Kd.freshB (g := Ah) (o := .cells #[.string Ab, .bool Aj, .string Ak, .string Ac, .bool Ad, .string Ae, .bool Af, .string Ag] 24 (0, 0)) xbk k_ hk, Kd.freshB (g := Aa) (o := .cells #[.string Ab, .bool true, .string An, .string Ac, .bool Ad, .string Ae, .bool Af, .string Ag] 24 (0, 0)) xbk k_ hk⟩))
 (case aO => exact (by (with_reducible repeat (first | apply Kd.R_alloc | apply Kd.R_drewN | apply Kd.R_drew)); exact Kd.R_mono Al.out (fun _ hk => ⟨hk.2, ⟨hk.1.1, hk.1.2⟩⟩)))
 (case aS => exact (ar xbl))
 (case aL => have := LMc21.out; first | omega | exact Nat.le_of_lt this)
 intro v710 w29 ho hb hg hat
 rw [← AG.out] at ho
 have n0_ := Zz.mk (ey (g := Ah) (o := .cells #[.string Ab, .bool Aj, .string Ak, .string Ac, .bool Ad, .string Ae, .bool Af, .string Ag] 24 (0, 0)) xbk hg (Kd.R_away Al.out (fun _ hk => hk.1.1)))
 have n1_ := Zz.mk (ey (g := Aa) (o := .cells #[.string Ab, .bool true, .string An, .string Ac, .bool Ad, .string Ae, .bool Af, .string Ag] 24 (0, 0)) xbk hg (Kd.R_away Al.out (fun _ hk => hk.1.2)))
 have n2_ := Zz.mk (Kd.R_after (ok := (fun k_ => k_ ≠ Ah ∧ k_ ≠ Aa)) (by (with_reducible repeat (first | apply Kd.R_alloc | apply Kd.R_drewN | apply Kd.R_drew)); exact Kd.R_mono Aq.out (fun _ hk => ⟨⟨hk.1.2, hk.2⟩, hk.1.1.2⟩)) hg hat)
 have n3_ := Zz.mk (hb)
 have n4_ := Zz.mk (ho)
 clear Ai
 clear Am
 clear Aq
 clear HB
 clear Al
 have Ai := n0_
 have Am := n1_
 have Aq := n2_
 have HB := n3_
 have AH := n4_
 clear n0_ n1_ n2_ n3_ n4_
 clear ho hb hg hat
 refine hK.out _ _ (xs8 Am.out) (fun hHeld => ?_)
 clear hK K
 refine gH (a' := ?_) ?_ ?_
 rotate_left
 {
 show Act.put _ (some 42) _ = _
 simp only [Act.put, xl1, xl2, xl3, ao, aq]
 rfl
 }
 refine xpu 8 7 ?_
 refine xdn ?_
 try go_wp2
 first | go_roundg k2 | (simp only [← Ao, ← Ap]; go_roundg k2)
 case measure => have := HJ4.out; have := HK2.out; omega
 case rel => exact ⟨(AF), (wrap64 (Ar + 1)), xrr, H, ⟨by have := HJ4.out; have := HK2.out; omega⟩, ⟨by (with_reducible repeat (first | apply Kd.R_alloc | apply Kd.R_drewN | apply Kd.R_drew)); exact Kd.R_mono AH.out (fun _ hk => hk.2.1)⟩, ⟨xbk⟩, ⟨xbl⟩⟩
 }
 have AE := xdf c13
 clear c13
 obtain rfl := Option.some.inj H
 go_wp2
 go_ret
 exact ⟨_, by first | rfl | (simp [br, bs] <;> first | rfl | (simp only [dw, bne, Bool.not_not]; done)) | (simp [*, br, bs] <;> rfl), by (with_reducible repeat (first | apply Kd.R_alloc | apply Kd.R_drewN | apply Kd.R_drew)); exact Kd.R_mono Al.out (fun _ hk => trivial), xbl⟩
 )
 )
 )
 )
attribute [local go_sem high] yo
mutual
def b4 : Nat → Int → ByteArray → List (S24) → Int → Option ((List (S24)))
  | 0, _, _, _, _ => none
  | k + 1, x0, x1, x5, x6 => if x6 < (x1.size : Int) then (if 0 ≤ x6 then (if (bt x1 x6) = 58 then (if x6 > 0 then (if x6 ≤ (x1.size : Int) then (if 0 ≤ (wrap64 (x6 + 1)) then (if (wrap64 (x6 + 1)) ≤ (x1.size : Int) then ((eV k x0 (x1.extract 0 (x6 : Int).toNat) false (⟨#[]⟩ : ByteArray) (⟨#[]⟩ : ByteArray) false (⟨#[]⟩ : ByteArray) false (⟨#[]⟩ : ByteArray) (x1.extract ((wrap64 (x6 + 1)) : Int).toNat x1.size)).bind fun t715 => (if x5.length + t715.length < 1353245080339 then (b4 k x0 x1 (x5 ++ t715) (wrap64 (x6 + 1))) else (none))) else (none)) else (none)) else (none)) else (b4 k x0 x1 x5 (wrap64 (x6 + 1)))) else (b4 k x0 x1 x5 (wrap64 (x6 + 1)))) else (none)) else (bx k x5 (([] : List (S24))) 0)
def bx : Nat → List (S24) → List (S24) → Int → Option ((List (S24)))
  | 0, _, _, _ => none
  | k + 1, x5, x7, x8 => if x8 < (x5.length : Int) then (cO k x5 x7 x8 false 0) else (some x7)
def cO : Nat → List (S24) → List (S24) → Int → Bool → Int → Option ((List (S24)))
  | 0, _, _, _, _, _ => none
  | k + 1, x5, x7, x8, x9, x10 => if x10 < (x7.length : Int) then (if 0 ≤ x10 then (if 0 ≤ x8 then (if x8 < (x5.length : Int) then (if ((((ag x7 x10).f0).toList) == (((ag x5 x8).f0).toList) && (((ag x7 x10).f1) == ((ag x5 x8).f1) && ((((ag x7 x10).f2).toList) == (((ag x5 x8).f2).toList) && ((((ag x7 x10).f3).toList) == (((ag x5 x8).f3).toList) && (((ag x7 x10).f4) == ((ag x5 x8).f4) && ((((ag x7 x10).f5).toList) == (((ag x5 x8).f5).toList) && (((ag x7 x10).f6) == ((ag x5 x8).f6) && ((((ag x7 x10).f7).toList) == (((ag x5 x8).f7).toList))))))))) = true then (cO k x5 x7 x8 true (wrap64 (x10 + 1))) else (cO k x5 x7 x8 x9 (wrap64 (x10 + 1)))) else (none)) else (none)) else (none)) else (if x9 = true then (bx k x5 x7 (wrap64 (x8 + 1))) else (if 0 ≤ x8 then (if x8 < (x5.length : Int) then (if x7.length < 1353245080339 then (bx k x5 (x7 ++ [(⟨(ag x5 x8).f0, (ag x5 x8).f1, (ag x5 x8).f2, (ag x5 x8).f3, (ag x5 x8).f4, (ag x5 x8).f5, (ag x5 x8).f6, (ag x5 x8).f7⟩ : S24)]) (wrap64 (x8 + 1))) else (none)) else (none)) else (none)))
end
def gQ (k : Nat) (a0 : Int) (a1 : ByteArray) : Option ((List (S24))) := (eV k a0 (⟨#[]⟩ : ByteArray) false (⟨#[]⟩ : ByteArray) (⟨#[]⟩ : ByteArray) false (⟨#[]⟩ : ByteArray) false (⟨#[]⟩ : ByteArray) a1).bind fun t712 => (b4 k a0 a1 t712 0)
theorem cE (k : Nat) (a0 : Int) (a1 : ByteArray) (r : List (S24)) (w : World) (h : gQ k a0 a1 = some r) :
    Calls Tryz.prog 9 #[.int .i64 a0, .string a1] w fun e w' => ∃ v0_ : Value, e = .returned (v0_) ∧ Kd.R k24 24 w' w.heap.size (fun _ => True) v0_ r ∧ Below w.heap.size w w' := by
 have hu24 := Tryz.underlying24
 have HB := Zz.mk (Below.refl w.heap.size w)
 have H := h
 clear h
 unfold gQ at H
 replace H := xbd H
 obtain ⟨Bd, A3, H⟩ := H
 try dsimp only at H
 have H' := Zz.mk H
 clear H
 go_enter Tryz.func9, Tryz.ntmps9
 go_wp2_with (first | ((with_reducible refine xgc (f := 21) rfl ?_); refine xgl 14 Tryz.func21 #[.int .i64 a0, .agg #[.string (⟨#[]⟩ : ByteArray), .bool false, .string (⟨#[]⟩ : ByteArray), .string (⟨#[]⟩ : ByteArray), .bool false, .string (⟨#[]⟩ : ByteArray), .bool false, .string (⟨#[]⟩ : ByteArray)], .string a1] ?_; (with_reducible refine (jV (w := _) (h := A3.out)).mono ?_); rintro e w4 ⟨v713, rfl, ho0, hb⟩; refine ⟨_, rfl, ?_⟩; have AO := Zz.mk (Kd.R_lower ho0 (ar xbl)); replace HB := xst hb; (try clear hb); (try clear ho0)))
 go_loopg [5, 6] k (fun kq v5 v6 w' => ∃ (Ac : List (S24)) (Ay : Int), v6 = .int .i64 Ay ∧ Zz (b4 kq a0 a1 Ac Ay = some r) ∧ Zz (kq ≤ k) ∧ Zz (Kd.R k24 24 w' w.heap.size (fun _ => True) v5 Ac) ∧ Zz (Below w.heap.size w w'))
 case atStart => exact ⟨(Bd), (0), xrr, H', ⟨Nat.le_refl _⟩, ⟨xkd AO⟩, ⟨xbl⟩⟩
 case round => (
 clear H'
 obtain ⟨Ac, Ay, rfl, HA, HK1, Ag, HB⟩ := hrel
 cases gk with
 | zero => exact absurd HA.out (by simp [b4])
 | succ k1 => (
 have H := HA.out
 clear HA
 simp only [b4] at H
 refine xid H ?_ ?_ <;> clear H <;> intro c5 H
 {
 have AP := xdt c5
 clear c5
 refine xin H ?_; clear H; intro c6 H
 have Bx := xdt c6
 clear c6
 refine xid H ?_ ?_ <;> clear H <;> intro c8 H
 {
 obtain ⟨Be, Bf⟩ := xqe c8
 clear c8
 refine xid H ?_ ?_ <;> clear H <;> intro c9 H
 {
 have Bg := xdt c9
 clear c9
 have Bk := eq_true (xod : 0 ≤ Ay)
 refine xin H ?_; clear H; intro c11 H
 obtain ⟨Bl, Bm⟩ := xcp c11
 clear c11
 obtain ⟨Bh, AA⟩ : ∃ j_ : ByteArray, (a1.extract 0 (Ay : Int).toNat) = j_ := ⟨_, rfl⟩
 try (have AM := AA; simp only [Int.toNat_natCast] at AM)
 first | rw [AA] at H | simp only [AA] at H | skip
 obtain ⟨AI, AB⟩ : ∃ j_ : Int, (wrap64 (Ay + 1)) = j_ := ⟨_, rfl⟩
 first | rw [AB] at H | simp only [AB] at H | skip
 have Bi : (IntKind.i64.wrap (Ay + 1)) = AI := (ao _).trans AB
 refine xin H ?_; clear H; intro c14 H
 obtain ⟨Bn, Bo⟩ := xcp c14
 clear c14
 refine xin H ?_; clear H; intro c15 H
 obtain ⟨Bp, Bq⟩ := xcp c15
 clear c15
 obtain ⟨Bj, AF⟩ : ∃ j_ : ByteArray, (a1.extract ((AI) : Int).toNat a1.size) = j_ := ⟨_, rfl⟩
 first | rw [AF] at H | simp only [AF] at H | skip
 replace H := xbd H
 obtain ⟨AN, A17, H⟩ := H
 try dsimp only at H
 refine xin H ?_; clear H; intro c18 H
 have LMc18 := Zz.mk c18
 clear c18
 obtain ⟨AQ, AC⟩ : ∃ y_ : List (S24), y_ = (Ac ++ AN) := ⟨_, rfl⟩
 replace H : (b4 k1 a0 a1 AQ AI) = some r := by first | (rw [AC]; with_reducible exact H) | (have H2_ := (Option.bind_some _ _).symm.trans H; rw [AC]; with_reducible exact H2_) | (have H2_ := (Option.bind_some _ _).symm.trans H; with_reducible exact H2_) | with_reducible exact H | (rw [AC]; exact H) | exact H
 have AR := Zz.mk AC
 clear AC
 replace H := xa H
 obtain ⟨p7, q7, hx7⟩ := xiv a1 Ay xod xod
 try go_wp2
 replace Ag := Zz.mk (Kd.R_drew Ag.out)
 replace HB := Zz.mk (aC HB.out)
 refine xsr 13 (S := fun _ => True) [] trivial (fun hHeld => ?_)
 generalize wr.drew = w19 at Ag HB hHeld ⊢
 refine xpu 0 29 ?_
 refine xpu 1 30 ?_
 refine xpu 2 31 ?_
 refine xpu 3 32 ?_
 refine xpu 4 33 ?_
 refine xpu 5 34 ?_
 refine xpu 6 35 ?_
 refine xpu 7 36 ?_
 refine xpu 8 37 ?_
 refine xpu 9 38 ?_
 refine jl (i := 10) (N := some 39) #[true, true, true, true, true, true, true, true, true, true, true, false, false] rfl rfl (iQ rfl (by kernel_rfl)) (by decide) (fun K hK => ?_)
 refine lz Tryz.func21 (by kernel_rfl) rfl #[.int .i64 a0, .agg #[.string Bh, .bool false, .string (⟨#[]⟩ : ByteArray), .string (⟨#[]⟩ : ByteArray), .bool false, .string (⟨#[]⟩ : ByteArray), .bool false, .string (⟨#[]⟩ : ByteArray)], .string Bj] (by rfl) rfl rfl (by (try simp only [List.map_toArray, List.map_cons, List.map_nil]); first | done | (simp only [AA, AF]; rfl) | rfl | (simp only [List.length_drop, List.length_take]; rfl)) ?_
 (with_reducible refine (jV (w := _) (h := A17.out)).mono ?_)
 rintro e w20 ⟨v716, rfl, ho0, hb⟩
 refine ⟨_, rfl, ?_⟩
 have Az := Zz.mk (Kd.R_lower (Kd.R_new' ho0 (Kd.R_lt (xkd Ag))) (ar xbl))
 replace Ag := Zz.mk (Kd.R_elder' (xkd Ag) (Kd.R_base ho0) hb)
 replace HB := xst hb
 (try clear hb)
 (try clear ho0)
 obtain ⟨Ao22, co22, eo22⟩ := Kd.R_slice Az.out
 (first | subst eo22 | (injection eo22 with f1_ f2_ f3_; have f4_ := f1_.symm; have f5_ := f3_.symm; clear f1_ f2_ f3_; subst f4_; subst f5_))
 refine hK.out _ _ trivial (fun hHeld => ?_)
 clear hK K
 refine gH (a' := ?_) ?_ ?_
 rotate_left
 {
 show Act.put _ (some 39) _ = _
 simp only [Act.put, xl1, xl2, xl3, ao, aq]
 rfl
 }
 refine jl (i := 11) (N := some 40) #[true, true, true, true, true, true, true, true, true, true, true, true, false] rfl rfl (iQ rfl (by kernel_rfl)) (by decide) (fun K hK => ?_)
 refine Kd.R_append_rows_step k24 (w0 := w) w.heap.size (by rfl) (.tmp 29) (.tmp 39) 29 24 (.agg #[(.string ⟨#[]⟩), (.bool false), (.string ⟨#[]⟩), (.string ⟨#[]⟩), (.bool false), (.string ⟨#[]⟩), (.bool false), (.string ⟨#[]⟩)]) 104 rfl Tryz.underlying29 nH rfl (by decide) (by omega) u5 Ac AN _ _ _ (fun k_ => some k_ ≠ (.slice Ao22 AN.length co22 : Value).ownBlock) (fun _ => False) rfl rfl ?aO ?aR (fun _ _ h => h) (fun _ h => h.elim) ?aF ?aB ?aS ?aL ?_
 (case aR => repeat (first | exact (Kd.R_reads' Az.out).2.2 | (with_reducible refine Kd.C_alloc ?_ _) | (with_reducible refine Kd.C_drewN ?_ _) | (with_reducible refine Kd.C_drew ?_)))
 (case aB => exact xbl)
 (case aF => exact (fun k_ hk => Kd.fresh' (Kd.R_lt (xkd Az)) k_ hk))
 (case aO => exact (by (with_reducible repeat (first | apply Kd.R_alloc | apply Kd.R_drewN | apply Kd.R_drew)); exact Kd.R_mono Ag.out (fun _ hk => hk.2)))
 (case aS => exact (ar xbl))
 (case aL => have := LMc18.out; first | omega | exact Nat.le_of_lt this)
 intro v719 w21 ho hb hg hat
 rw [← AR.out] at ho
 have n0_ := Zz.mk (Kd.R_after (ok := (fun _ => True)) (xkd Az) hg hat)
 have n1_ := Zz.mk (hb)
 have n2_ := Zz.mk (ho)
 clear Az
 clear HB
 clear Ag
 have Az := n0_
 have HB := n1_
 have AS := n2_
 clear n0_ n1_ n2_
 clear ho hb hg hat
 refine hK.out _ _ trivial (fun hHeld => ?_)
 clear hK K
 refine gH (a' := ?_) ?_ ?_
 rotate_left
 {
 show Act.put _ (some 40) _ = _
 simp only [Act.put, xl1, xl2, xl3, ao, aq]
 rfl
 }
 refine xpu 12 5 ?_
 refine xdn ?_
 try go_wp2
 first | go_roundg k1 | (simp only [← AA, ← AB, ← AF]; go_roundg k1)
 case measure => have := HK1.out; omega
 case rel => exact ⟨(AQ), (AI), (by first | exact xrs | (simp only [← AB] <;> (first | rfl | simp)) | exact xrr), H, ⟨by have := HK1.out; omega⟩, ⟨by (with_reducible repeat (first | apply Kd.R_alloc | apply Kd.R_drewN | apply Kd.R_drew)); exact Kd.R_mono AS.out (fun _ hk => trivial)⟩, ⟨xbl⟩⟩
 }
 have Bg := xdf c9
 clear c9
 replace H := xa H
 obtain ⟨p7, q7, hx7⟩ := xiv a1 Ay xod xod
 go_wp2
 go_roundg k1
 case measure => have := HK1.out; omega
 case rel => exact ⟨(Ac), (wrap64 (Ay + 1)), xrr, H, ⟨by have := HK1.out; omega⟩, ⟨xkd Ag⟩, ⟨xbl⟩⟩
 }
 obtain ⟨Be, Bf⟩ := xqn c8
 replace H := xa H
 obtain ⟨p7, q7, hx7⟩ := xiv a1 Ay xod xod
 go_wp2
 go_roundg k1
 case measure => have := HK1.out; omega
 case rel => exact ⟨(Ac), (wrap64 (Ay + 1)), xrr, H, ⟨by have := HK1.out; omega⟩, ⟨xkd Ag⟩, ⟨xbl⟩⟩
 }
 have AP := xdf c5
 clear c5
 obtain ⟨AT, AD⟩ : ∃ y_ : List (S24), y_ = (([] : List (S24))) := ⟨_, rfl⟩
 replace H : (bx k1 Ac AT 0) = some r := by first | (rw [AD]; with_reducible exact H) | (have H2_ := (Option.bind_some _ _).symm.trans H; rw [AD]; with_reducible exact H2_) | (have H2_ := (Option.bind_some _ _).symm.trans H; with_reducible exact H2_) | with_reducible exact H | (rw [AD]; exact H) | exact H
 have AK := Zz.mk AD
 clear AD
 have H' := Zz.mk H
 clear H
 go_wp2_with (first | ((with_reducible refine aj (N := 41) rfl ?_); refine Kd.R_lit k24 _ 24 ?hg (N := 41) ?hd (xs := ([] : List (S24))) (inner := []) (ok := fun _ => True) (okp := fun _ => True) ?hr ?hp (fun _ hk => hk) trivial (Below.refl _ _) (Nat.le_refl _) (by simp) ?_; (case hd => rfl); (case hg => rfl); (case hr => first | (go_simp; done) | (go_simp; rfl)); (case hp => exact (Reps.none _ _)); intro v722 w23 ho24 hb hg_ hnew_; clear hg_ hnew_; (first | rw [← AK.out] at ho24 | (simp only [Int.reduceToNat] at ho24; rw [← AK.out] at ho24)); have AU := Zz.mk (Kd.R_lower (Kd.R_new' ho24 (Kd.R_lt (xkd Ag))) (ar xbl)); replace Ag := Zz.mk (Kd.R_elder' (xkd Ag) (Kd.R_base ho24) hb); replace HB := xst hb; clear hb ho24))
 go_loopg [7, 8] k1 (fun kq v7 v8 w' => ∃ (Ad : List (S24)) (Ab : Int), v8 = .int .i64 Ab ∧ Zz (bx kq Ac Ad Ab = some r) ∧ Zz (kq ≤ k1) ∧ Zz (Kd.R k24 24 w' w.heap.size (fun k_ => some k_ ≠ (v7 : Value).ownBlock) u5 Ac) ∧ Zz (Kd.R k24 24 w' w.heap.size (fun k_ => some k_ ≠ (u5 : Value).ownBlock) v7 Ad) ∧ Zz (Below w.heap.size w w'))
 case atStart => exact ⟨(AT), (0), xrr, H', ⟨Nat.le_refl _⟩, ⟨by (with_reducible repeat (first | apply Kd.R_alloc | apply Kd.R_drewN | apply Kd.R_drew)); exact Kd.R_mono Ag.out (fun _ hk => hk.2)⟩, ⟨by (with_reducible repeat (first | apply Kd.R_alloc | apply Kd.R_drewN | apply Kd.R_drew)); exact Kd.R_mono AU.out (fun _ hk => hk.2)⟩, ⟨xbl⟩⟩
 case round => (
 clear H'
 clear AP
 obtain ⟨Ad, Ab, rfl, HA, HK2, Ag, Ah, HB⟩ := hrel
 cases gk with
 | zero => exact absurd HA.out (by simp [bx])
 | succ k2 => (
 have H := HA.out
 clear HA
 simp only [bx] at H
 refine xid H ?_ ?_ <;> clear H <;> intro c25 H
 {
 have AL := xdt c25
 clear c25
 have H' := Zz.mk H
 clear H
 obtain ⟨Ao26, co26, eo26⟩ := Kd.R_slice Ag.out
 subst eo26
 go_wp2
 go_loopg [9, 10] k2 (fun kq v9 v10 w' => ∃ AJ Aa, v9 = .bool AJ ∧ v10 = .int .i64 Aa ∧ Zz (cO kq Ac Ad Ab AJ Aa = some r) ∧ Zz (kq ≤ k2) ∧ Zz (Kd.R k24 24 w' w.heap.size (fun k_ => some k_ ≠ (u7 : Value).ownBlock) (.slice Ao26 Ac.length co26) Ac) ∧ Zz (Kd.R k24 24 w' w.heap.size (fun k_ => some k_ ≠ ((.slice Ao26 Ac.length co26) : Value).ownBlock) u7 Ad) ∧ Zz (Below w.heap.size w w'))
 case atStart => exact ⟨(false), (0), xrr, xrr, H', ⟨Nat.le_refl _⟩, ⟨xkd Ag⟩, ⟨xkd Ah⟩, ⟨xbl⟩⟩
 case round => (
 clear H'
 clear AL
 obtain ⟨AJ, Aa, rfl, rfl, HA, HK3, Ag, Ah, HB⟩ := hrel
 cases gk with
 | zero => exact absurd HA.out (by simp [cO])
 | succ k3 => (
 have H := HA.out
 clear HA
 simp only [cO] at H
 refine xid H ?_ ?_ <;> clear H <;> intro c27 H
 {
 have AV := xdt c27
 clear c27
 refine xin H ?_; clear H; intro c28 H
 have Br := xdt c28
 clear c28
 refine xin H ?_; clear H; intro c29 H
 have Bs := xdt c29
 clear c29
 refine xin H ?_; clear H; intro c30 H
 have Bt := xdt c30
 clear c30
 refine xid H ?_ ?_ <;> clear H <;> intro c31 H
 {
 have AW : ((((ag Ad Aa).f0).toList) == (((ag Ac Ab).f0).toList) && (((ag Ad Aa).f1) == ((ag Ac Ab).f1) && ((((ag Ad Aa).f2).toList) == (((ag Ac Ab).f2).toList) && ((((ag Ad Aa).f3).toList) == (((ag Ac Ab).f3).toList) && (((ag Ad Aa).f4) == ((ag Ac Ab).f4) && ((((ag Ad Aa).f5).toList) == (((ag Ac Ab).f5).toList) && (((ag Ad Aa).f6) == ((ag Ac Ab).f6) && ((((ag Ad Aa).f7).toList) == (((ag Ac Ab).f7).toList))))))))) = true := c31
 (try (have AX : decide ((((ag Ad Aa).f0).toList) = (((ag Ac Ab).f0).toList) && (((ag Ad Aa).f1) == ((ag Ac Ab).f1) && ((((ag Ad Aa).f2).toList) == (((ag Ac Ab).f2).toList) && ((((ag Ad Aa).f3).toList) == (((ag Ac Ab).f3).toList) && (((ag Ad Aa).f4) == ((ag Ac Ab).f4) && ((((ag Ad Aa).f5).toList) == (((ag Ac Ab).f5).toList) && (((ag Ad Aa).f6) == ((ag Ac Ab).f6) && ((((ag Ad Aa).f7).toList) == (((ag Ac Ab).f7).toList))))))))) = true := by simpa using c31))
 (try (have AY : ((((ag Ad Aa).f0).toList) == (((ag Ac Ab).f0).toList) && (((ag Ad Aa).f1) == ((ag Ac Ab).f1) && ((((ag Ad Aa).f2).toList) == (((ag Ac Ab).f2).toList) && ((((ag Ad Aa).f3).toList) == (((ag Ac Ab).f3).toList) && (((ag Ad Aa).f4) == ((ag Ac Ab).f4) && ((((ag Ad Aa).f5).toList) == (((ag Ac Ab).f5).toList) && (((ag Ad Aa).f6) == ((ag Ac Ab).f6) && ((((ag Ad Aa).f7).toList) == (((ag Ac Ab).f7).toList))))))))) = true := by simpa using c31))
 clear c31
 replace H := xa H
 obtain ⟨Ao32, co32, eo32⟩ := Kd.R_slice Ah.out
 subst eo32
 try go_wp2
 replace Ag := Zz.mk (Kd.R_drew Ag.out)
 replace Ah := Zz.mk (Kd.R_drew Ah.out)
 replace HB := Zz.mk (aC HB.out)
 have p724 : 0 ≤ (Aa : Int) := xod
 have q724 : Aa < (Ad.length : Int) := xod
 obtain ⟨Ae, e724, Ai, Aj, Ak, Al, Am, An, Ao, Ap⟩ := lE (Kd.R_reads' Ah.out).2.2 Aa p724 q724
 cases e724
 replace p724 := eq_true p724
 replace q724 := eq_true q724
 try (have AG := q724; simp only [ByteArray.size_extract, Nat.min_self] at AG)
 have p725 : 0 ≤ (Ab : Int) := xod
 have q725 : Ab < (Ac.length : Int) := xod
 obtain ⟨Af, e725, Aq, Ar, As, At, Au, Av, Aw, Ax⟩ := lE (Kd.R_reads' Ag.out).2.2 Ab p725 q725
 cases e725
 replace p725 := eq_true p725
 replace q725 := eq_true q725
 try (have AH := q725; simp only [ByteArray.size_extract, Nat.min_self] at AH)
 refine kA (n := 9) (S := fun w' => w'.cell? (Ae.add ((Aa).toNat * 8)) = some (.string ((ag Ad Aa).f0)) ∧ w'.cell? ⟨(Ae.add ((Aa).toNat * 8)).block, (Ae.add ((Aa).toNat * 8)).off + 1, none⟩ = some (.bool ((ag Ad Aa).f1)) ∧ w'.cell? ⟨(Ae.add ((Aa).toNat * 8)).block, (Ae.add ((Aa).toNat * 8)).off + 2, none⟩ = some (.string ((ag Ad Aa).f2)) ∧ w'.cell? ⟨(Ae.add ((Aa).toNat * 8)).block, (Ae.add ((Aa).toNat * 8)).off + 3, none⟩ = some (.string ((ag Ad Aa).f3)) ∧ w'.cell? ⟨(Ae.add ((Aa).toNat * 8)).block, (Ae.add ((Aa).toNat * 8)).off + 4, none⟩ = some (.bool ((ag Ad Aa).f4)) ∧ w'.cell? ⟨(Ae.add ((Aa).toNat * 8)).block, (Ae.add ((Aa).toNat * 8)).off + 5, none⟩ = some (.string ((ag Ad Aa).f5)) ∧ w'.cell? ⟨(Ae.add ((Aa).toNat * 8)).block, (Ae.add ((Aa).toNat * 8)).off + 6, none⟩ = some (.bool ((ag Ad Aa).f6)) ∧ w'.cell? ⟨(Ae.add ((Aa).toNat * 8)).block, (Ae.add ((Aa).toNat * 8)).off + 7, none⟩ = some (.string ((ag Ad Aa).f7)) ∧ w'.cell? (Af.add ((Ab).toNat * 8)) = some (.string ((ag Ac Ab).f0)) ∧ w'.cell? ⟨(Af.add ((Ab).toNat * 8)).block, (Af.add ((Ab).toNat * 8)).off + 1, none⟩ = some (.bool ((ag Ac Ab).f1)) ∧ w'.cell? ⟨(Af.add ((Ab).toNat * 8)).block, (Af.add ((Ab).toNat * 8)).off + 2, none⟩ = some (.string ((ag Ac Ab).f2)) ∧ w'.cell? ⟨(Af.add ((Ab).toNat * 8)).block, (Af.add ((Ab).toNat * 8)).off + 3, none⟩ = some (.string ((ag Ac Ab).f3)) ∧ w'.cell? ⟨(Af.add ((Ab).toNat * 8)).block, (Af.add ((Ab).toNat * 8)).off + 4, none⟩ = some (.bool ((ag Ac Ab).f4)) ∧ w'.cell? ⟨(Af.add ((Ab).toNat * 8)).block, (Af.add ((Ab).toNat * 8)).off + 5, none⟩ = some (.string ((ag Ac Ab).f5)) ∧ w'.cell? ⟨(Af.add ((Ab).toNat * 8)).block, (Af.add ((Ab).toNat * 8)).off + 6, none⟩ = some (.bool ((ag Ac Ab).f6)) ∧ w'.cell? ⟨(Af.add ((Ab).toNat * 8)).block, (Af.add ((Ab).toNat * 8)).off + 7, none⟩ = some (.string ((ag Ac Ab).f7))) (ds := []) #[false, false, false, false, false, false, false, false, false] (by kernel_rfl) rfl rfl ⟨Ai, Aj, Ak, Al, Am, An, Ao, Ap, Aq, Ar, As, At, Au, Av, Aw, Ax⟩ (fun hHeld => ?_)
 generalize wr.drew = w33 at Ag Ah HB Ai Aj Ak Al Am An Ao Ap Aq Ar As At Au Av Aw Ax hHeld ⊢
 refine xpu 0 54 ?_
 refine xpu 1 55 ?_
 refine xpu 2 56 ?_
 refine xpu 4 58 ?_
 refine xpu 5 59 ?_
 refine xpu 6 60 ?_
 refine xtk 3 57 ?_
 refine xtk 7 61 ?_
 refine xpu 8 62 ?_
 refine xdn ?_
 try go_wp2
 go_roundg k3
 case measure => have := HK1.out; have := HK2.out; have := HK3.out; omega
 case rel => exact ⟨(true), (wrap64 (Aa + 1)), xrr, xrr, H, ⟨by have := HK1.out; have := HK2.out; have := HK3.out; omega⟩, ⟨xkd Ag⟩, ⟨xkd Ah⟩, ⟨xbl⟩⟩
 }
 have AW : ((((ag Ad Aa).f0).toList) == (((ag Ac Ab).f0).toList) && (((ag Ad Aa).f1) == ((ag Ac Ab).f1) && ((((ag Ad Aa).f2).toList) == (((ag Ac Ab).f2).toList) && ((((ag Ad Aa).f3).toList) == (((ag Ac Ab).f3).toList) && (((ag Ad Aa).f4) == ((ag Ac Ab).f4) && ((((ag Ad Aa).f5).toList) == (((ag Ac Ab).f5).toList) && (((ag Ad Aa).f6) == ((ag Ac Ab).f6) && ((((ag Ad Aa).f7).toList) == (((ag Ac Ab).f7).toList))))))))) = false := by simpa using c31
 (try (have AX : decide ((((ag Ad Aa).f0).toList) = (((ag Ac Ab).f0).toList) && (((ag Ad Aa).f1) == ((ag Ac Ab).f1) && ((((ag Ad Aa).f2).toList) == (((ag Ac Ab).f2).toList) && ((((ag Ad Aa).f3).toList) == (((ag Ac Ab).f3).toList) && (((ag Ad Aa).f4) == ((ag Ac Ab).f4) && ((((ag Ad Aa).f5).toList) == (((ag Ac Ab).f5).toList) && (((ag Ad Aa).f6) == ((ag Ac Ab).f6) && ((((ag Ad Aa).f7).toList) == (((ag Ac Ab).f7).toList))))))))) = false := by simpa using c31))
 (try (have AY : ((((ag Ad Aa).f0).toList) == (((ag Ac Ab).f0).toList) && (((ag Ad Aa).f1) == ((ag Ac Ab).f1) && ((((ag Ad Aa).f2).toList) == (((ag Ac Ab).f2).toList) && ((((ag Ad Aa).f3).toList) == (((ag Ac Ab).f3).toList) && (((ag Ad Aa).f4) == ((ag Ac Ab).f4) && ((((ag Ad Aa).f5).toList) == (((ag Ac Ab).f5).toList) && (((ag Ad Aa).f6) == ((ag Ac Ab).f6) && ((((ag Ad Aa).f7).toList) == (((ag Ac Ab).f7).toList))))))))) = false := by simpa using c31))
 (try (have Bu : ¬ ((((ag Ad Aa).f0).toList) = (((ag Ac Ab).f0).toList) && (((ag Ad Aa).f1) == ((ag Ac Ab).f1) && ((((ag Ad Aa).f2).toList) == (((ag Ac Ab).f2).toList) && ((((ag Ad Aa).f3).toList) == (((ag Ac Ab).f3).toList) && (((ag Ad Aa).f4) == ((ag Ac Ab).f4) && ((((ag Ad Aa).f5).toList) == (((ag Ac Ab).f5).toList) && (((ag Ad Aa).f6) == ((ag Ac Ab).f6) && ((((ag Ad Aa).f7).toList) == (((ag Ac Ab).f7).toList))))))))) := by simpa using c31))
 clear c31
 replace H := xa H
 obtain ⟨Ao34, co34, eo34⟩ := Kd.R_slice Ah.out
 subst eo34
 try go_wp2
 replace Ag := Zz.mk (Kd.R_drew Ag.out)
 replace Ah := Zz.mk (Kd.R_drew Ah.out)
 replace HB := Zz.mk (aC HB.out)
 have p724 : 0 ≤ (Aa : Int) := xod
 have q724 : Aa < (Ad.length : Int) := xod
 obtain ⟨Ae, e724, Ai, Aj, Ak, Al, Am, An, Ao, Ap⟩ := lE (Kd.R_reads' Ah.out).2.2 Aa p724 q724
 cases e724
 replace p724 := eq_true p724
 replace q724 := eq_true q724
 try (have AG := q724; simp only [ByteArray.size_extract, Nat.min_self] at AG)
 have p725 : 0 ≤ (Ab : Int) := xod
 have q725 : Ab < (Ac.length : Int) := xod
 obtain ⟨Af, e725, Aq, Ar, As, At, Au, Av, Aw, Ax⟩ := lE (Kd.R_reads' Ag.out).2.2 Ab p725 q725
 cases e725
 replace p725 := eq_true p725
 replace q725 := eq_true q725
 try (have AH := q725; simp only [ByteArray.size_extract, Nat.min_self] at AH)
 refine kA (n := 9) (S := fun w' => w'.cell? (Ae.add ((Aa).toNat * 8)) = some (.string ((ag Ad Aa).f0)) ∧ w'.cell? ⟨(Ae.add ((Aa).toNat * 8)).block, (Ae.add ((Aa).toNat * 8)).off + 1, none⟩ = some (.bool ((ag Ad Aa).f1)) ∧ w'.cell? ⟨(Ae.add ((Aa).toNat * 8)).block, (Ae.add ((Aa).toNat * 8)).off + 2, none⟩ = some (.string ((ag Ad Aa).f2)) ∧ w'.cell? ⟨(Ae.add ((Aa).toNat * 8)).block, (Ae.add ((Aa).toNat * 8)).off + 3, none⟩ = some (.string ((ag Ad Aa).f3)) ∧ w'.cell? ⟨(Ae.add ((Aa).toNat * 8)).block, (Ae.add ((Aa).toNat * 8)).off + 4, none⟩ = some (.bool ((ag Ad Aa).f4)) ∧ w'.cell? ⟨(Ae.add ((Aa).toNat * 8)).block, (Ae.add ((Aa).toNat * 8)).off + 5, none⟩ = some (.string ((ag Ad Aa).f5)) ∧ w'.cell? ⟨(Ae.add ((Aa).toNat * 8)).block, (Ae.add ((Aa).toNat * 8)).off + 6, none⟩ = some (.bool ((ag Ad Aa).f6)) ∧ w'.cell? ⟨(Ae.add ((Aa).toNat * 8)).block, (Ae.add ((Aa).toNat * 8)).off + 7, none⟩ = some (.string ((ag Ad Aa).f7)) ∧ w'.cell? (Af.add ((Ab).toNat * 8)) = some (.string ((ag Ac Ab).f0)) ∧ w'.cell? ⟨(Af.add ((Ab).toNat * 8)).block, (Af.add ((Ab).toNat * 8)).off + 1, none⟩ = some (.bool ((ag Ac Ab).f1)) ∧ w'.cell? ⟨(Af.add ((Ab).toNat * 8)).block, (Af.add ((Ab).toNat * 8)).off + 2, none⟩ = some (.string ((ag Ac Ab).f2)) ∧ w'.cell? ⟨(Af.add ((Ab).toNat * 8)).block, (Af.add ((Ab).toNat * 8)).off + 3, none⟩ = some (.string ((ag Ac Ab).f3)) ∧ w'.cell? ⟨(Af.add ((Ab).toNat * 8)).block, (Af.add ((Ab).toNat * 8)).off + 4, none⟩ = some (.bool ((ag Ac Ab).f4)) ∧ w'.cell? ⟨(Af.add ((Ab).toNat * 8)).block, (Af.add ((Ab).toNat * 8)).off + 5, none⟩ = some (.string ((ag Ac Ab).f5)) ∧ w'.cell? ⟨(Af.add ((Ab).toNat * 8)).block, (Af.add ((Ab).toNat * 8)).off + 6, none⟩ = some (.bool ((ag Ac Ab).f6)) ∧ w'.cell? ⟨(Af.add ((Ab).toNat * 8)).block, (Af.add ((Ab).toNat * 8)).off + 7, none⟩ = some (.string ((ag Ac Ab).f7))) (ds := []) #[false, false, false, false, false, false, false, false, false] (by kernel_rfl) rfl rfl ⟨Ai, Aj, Ak, Al, Am, An, Ao, Ap, Aq, Ar, As, At, Au, Av, Aw, Ax⟩ (fun hHeld => ?_)
 generalize wr.drew = w35 at Ag Ah HB Ai Aj Ak Al Am An Ao Ap Aq Ar As At Au Av Aw Ax hHeld ⊢
 refine xpu 0 54 ?_
 refine xpu 1 55 ?_
 refine xpu 2 56 ?_
 refine xpu 4 58 ?_
 refine xpu 5 59 ?_
 refine xpu 6 60 ?_
 refine xtk 3 57 ?_
 refine xtk 7 61 ?_
 refine xpu 8 62 ?_
 refine xdn ?_
 try go_wp2
 go_roundg k3
 case measure => have := HK1.out; have := HK2.out; have := HK3.out; omega
 case rel => exact ⟨(AJ), (wrap64 (Aa + 1)), xrr, xrr, H, ⟨by have := HK1.out; have := HK2.out; have := HK3.out; omega⟩, ⟨xkd Ag⟩, ⟨xkd Ah⟩, ⟨xbl⟩⟩
 }
 have AV := xdf c27
 clear c27
 refine xib H ?_ ?_ <;> clear H <;> rintro rfl H
 {
 replace H := xa H
 obtain ⟨Ao37, co37, eo37⟩ := Kd.R_slice Ah.out
 subst eo37
 go_wp2
 go_roundg k3
 case measure => have := HK1.out; have := HK2.out; have := HK3.out; omega
 case rel => exact ⟨(Ad), (wrap64 (Ab + 1)), xrr, H, ⟨by have := HK1.out; have := HK2.out; have := HK3.out; omega⟩, ⟨xkd Ag⟩, ⟨xkd Ah⟩, ⟨xbl⟩⟩
 }
 refine xin H ?_; clear H; intro c38 H
 have Bv := xdt c38
 clear c38
 refine xin H ?_; clear H; intro c39 H
 have Bw := xdt c39
 clear c39
 refine xin H ?_; clear H; intro c40 H
 have LMc40 := Zz.mk c40
 clear c40
 obtain ⟨AZ, AE⟩ : ∃ y_ : List (S24), y_ = (Ad ++ [(⟨(ag Ac Ab).f0, (ag Ac Ab).f1, (ag Ac Ab).f2, (ag Ac Ab).f3, (ag Ac Ab).f4, (ag Ac Ab).f5, (ag Ac Ab).f6, (ag Ac Ab).f7⟩ : S24)]) := ⟨_, rfl⟩
 replace H : (bx k3 Ac AZ (wrap64 (Ab + 1))) = some r := by first | (rw [AE]; with_reducible exact H) | (have H2_ := (Option.bind_some _ _).symm.trans H; rw [AE]; with_reducible exact H2_) | (have H2_ := (Option.bind_some _ _).symm.trans H; with_reducible exact H2_) | with_reducible exact H | (rw [AE]; exact H) | exact H
 have A0 := Zz.mk AE
 clear AE
 replace H := xa H
 obtain ⟨Ao41, co41, eo41⟩ := Kd.R_slice Ah.out
 subst eo41
 have p726 : 0 ≤ (Ab : Int) := xod
 have q726 : Ab < (Ac.length : Int) := xod
 obtain ⟨A1, e726, A5, A6, A7, A8, A9, Ba, Bb, Bc⟩ := lE (Kd.R_reads' Ag.out).2.2 Ab p726 q726
 cases e726
 replace p726 := eq_true p726
 replace q726 := eq_true q726
 try (have A2 := q726; simp only [ByteArray.size_extract, Nat.min_self] at A2)
 go_wp2_with (first | ((with_reducible refine ez (b := .append) (xs := #[.tmp 65, .tmp 70]) rfl ?_); at_builtin; refine Kd.R_append k24 (w0 := w) w.heap.size rfl (.tmp 65) (.tmp 70) 29 24 (.agg #[(.string ⟨#[]⟩), (.bool false), (.string ⟨#[]⟩), (.string ⟨#[]⟩), (.bool false), (.string ⟨#[]⟩), (.bool false), (.string ⟨#[]⟩)]) 104 rfl Tryz.underlying29 nH rfl (by decide) (by omega) (.slice Ao41 Ad.length co41) Ad (⟨(ag Ac Ab).f0, (ag Ac Ab).f1, (ag Ac Ab).f2, (ag Ac Ab).f3, (ag Ac Ab).f4, (ag Ac Ab).f5, (ag Ac Ab).f6, (ag Ac Ab).f7⟩ : S24) [.string ((ag Ac Ab).f0), .bool ((ag Ac Ab).f1), .string ((ag Ac Ab).f2), .string ((ag Ac Ab).f3), .bool ((ag Ac Ab).f4), .string ((ag Ac Ab).f5), .bool ((ag Ac Ab).f6), .string ((ag Ac Ab).f7)] (fun k_ => some k_ ≠ (.slice (some A1) Ac.length co26 : Value).ownBlock) (fun _ => False) rfl rfl ?aP (fun _ hk => hk.elim) ?aF ?aO ?aB ?aS ?aL ?_; (case aP => exact o9 _ _ _ (⟨(ag Ac Ab).f0, (ag Ac Ab).f1, (ag Ac Ab).f2, (ag Ac Ab).f3, (ag Ac Ab).f4, (ag Ac Ab).f5, (ag Ac Ab).f6, (ag Ac Ab).f7⟩ : S24)); (case aB => exact xbl); (case aF => exact (fun k_ hk => Kd.fresh' (Kd.R_lt (xkd Ag)) k_ hk)); (case aO => exact (xkd Ah)); (case aS => exact (ar xbl)); (case aL => have := LMc40.out; first | omega | exact Nat.le_of_lt this); intro v728 w42 ho hb hg hat; rw [← A0.out] at ho; have n0_ := Zz.mk (Kd.R_after (ok := (fun _ => True)) (by (with_reducible repeat (first | apply Kd.R_alloc | apply Kd.R_drewN | apply Kd.R_drew)); exact Kd.R_mono Ag.out (fun _ hk => ⟨trivial, hk⟩)) hg hat); have n1_ := Zz.mk (hb); have n2_ := Zz.mk (ho); clear Ag; clear HB; clear Ah; have Ag := n0_; have HB := n1_; have A4 := n2_; clear n0_ n1_ n2_; clear ho hb hg hat))
 go_roundg k3
 case measure => have := HK1.out; have := HK2.out; have := HK3.out; omega
 case rel => exact ⟨(AZ), (wrap64 (Ab + 1)), xrr, H, ⟨by have := HK1.out; have := HK2.out; have := HK3.out; omega⟩, ⟨by (with_reducible repeat (first | apply Kd.R_alloc | apply Kd.R_drewN | apply Kd.R_drew)); exact Kd.R_mono Ag.out (fun _ hk => hk.2)⟩, ⟨xkd A4⟩, ⟨xbl⟩⟩
 )
 )
 }
 have AL := xdf c25
 clear c25
 obtain rfl := Option.some.inj H
 obtain ⟨Ao43, co43, eo43⟩ := Kd.R_slice Ag.out
 subst eo43
 go_wp2
 go_ret
 exact ⟨_, by first | rfl | (simp [br, bs] <;> first | rfl | (simp only [dw, bne, Bool.not_not]; done)) | (simp [*, br, bs] <;> rfl), by (with_reducible repeat (first | apply Kd.R_alloc | apply Kd.R_drewN | apply Kd.R_drew)); exact Kd.R_mono Ah.out (fun _ hk => trivial), xbl⟩
 )
 )
 )
 )
mutual
def dh : Nat → ByteArray → ByteArray → Bool → ByteArray → ByteArray → Bool → ByteArray → Bool → ByteArray → Option (ByteArray)
  | 0, _, _, _, _, _, _, _, _, _ => none
  | k + 1, x3, Ac, Ab, Aa, Ad, Ae, Af, Ag, Ah => if Ab = true then (if 2 + Aa.size ≤ 9223372036854775807 then (if x3.size + ((⟨#[47, 47]⟩ : ByteArray) ++ Aa).size ≤ 9223372036854775807 then (ce k (x3 ++ ((⟨#[47, 47]⟩ : ByteArray) ++ Aa)) Ac Ab Aa Ad Ae Af Ag Ah) else (none)) else (none)) else (ce k x3 Ac Ab Aa Ad Ae Af Ag Ah)
def ce : Nat → ByteArray → ByteArray → Bool → ByteArray → ByteArray → Bool → ByteArray → Bool → ByteArray → Option (ByteArray)
  | 0, _, _, _, _, _, _, _, _, _ => none
  | k + 1, x3, Af, Ag, Ah, Aa, Ae, Ac, Ad, Ab => if x3.size + Aa.size ≤ 9223372036854775807 then (if Ae = true then (if 1 + Ac.size ≤ 9223372036854775807 then (if (x3 ++ Aa).size + ((⟨#[63]⟩ : ByteArray) ++ Ac).size ≤ 9223372036854775807 then (if Ad = true then (if 1 + Ab.size ≤ 9223372036854775807 then (if ((x3 ++ Aa) ++ ((⟨#[63]⟩ : ByteArray) ++ Ac)).size + ((⟨#[35]⟩ : ByteArray) ++ Ab).size ≤ 9223372036854775807 then (some (((x3 ++ Aa) ++ ((⟨#[63]⟩ : ByteArray) ++ Ac)) ++ ((⟨#[35]⟩ : ByteArray) ++ Ab))) else (none)) else (none)) else (some ((x3 ++ Aa) ++ ((⟨#[63]⟩ : ByteArray) ++ Ac)))) else (none)) else (none)) else (if Ad = true then (if 1 + Ab.size ≤ 9223372036854775807 then (if (x3 ++ Aa).size + ((⟨#[35]⟩ : ByteArray) ++ Ab).size ≤ 9223372036854775807 then (some ((x3 ++ Aa) ++ ((⟨#[35]⟩ : ByteArray) ++ Ab))) else (none)) else (none)) else (some (x3 ++ Aa)))) else (none)
end
def fm (k : Nat) (Aa : ByteArray) (Ab : Bool) (Ac : ByteArray) (Ad : ByteArray) (Ae : Bool) (Af : ByteArray) (Ag : Bool) (Ah : ByteArray) : Option (ByteArray) := if Aa.toList = ([] : List UInt8) then (dh k (⟨#[]⟩ : ByteArray) Aa Ab Ac Ad Ae Af Ag Ah) else (if Aa.size + 1 ≤ 9223372036854775807 then (dh k (Aa ++ (⟨#[58]⟩ : ByteArray)) Aa Ab Ac Ad Ae Af Ag Ah) else (none))
theorem kn (k : Nat) (Ae : ByteArray) (Ai : Bool) (Af : ByteArray) (Ab : ByteArray) (Aj : Bool) (Ad : ByteArray) (Ak : Bool) (Ac : ByteArray) (r : ByteArray) (w : World) (h : fm k Ae Ai Af Ab Aj Ad Ak Ac = some r) :
    Calls Tryz.prog 10 #[.agg #[.string Ae, .bool Ai, .string Af, .string Ab, .bool Aj, .string Ad, .bool Ak, .string Ac]] w fun e w' => e = .returned (.string r) ∧ Below w.heap.size w w' := by
 have hu24 := Tryz.underlying24
 have HB := Zz.mk (Below.refl w.heap.size w)
 have H := h
 clear h
 unfold fm at H
 have Ao := Zz.mk H
 clear H
 go_enter Tryz.func10, Tryz.ntmps10
 go_upto_if 6 with (first | ((with_reducible refine aj (N := 1) rfl ?_); refine xew 1 ?_; intro Am w3 Aa Ar hb hg; replace HB := xst hb; clear hb hg; have A5 := xz8 Aa.out))
 (try simp only [Act.put, xl1, xl2, xl3])
 go_cut [3] (fun v3 wc => ∃ kq Ah, v3 = .string Ah ∧ Zz (dh kq Ah Ae Ai Af Ab Aj Ad Ak Ac = some r) ∧ Zz (kq ≤ k) ∧ Zz (wc.heap[Am]? = some (.cells #[.string Ae, .bool Ai, .string Af, .string Ab, .bool Aj, .string Ad, .bool Ak, .string Ac] 24 (0, 0))) ∧ Zz (Below w.heap.size w wc))
 case first => (
 have H := Ao.out
 clear Ao
 refine xid H ?_ ?_ <;> clear H <;> intro c5 H
 {
 obtain ⟨Al, Ap⟩ := xqe c5
 (try (have An : Ae.toList.isEmpty = true := by simpa using c5))
 clear c5
 (first | rw [Al] | (simp only [ao, aq]; rw [Al]) | (rw [An]; (try simp only [Bool.not_false, Bool.not_true])) | skip)
 replace H := xa H
 go_wp2
 go_meet
 case rel => exact ⟨_, ((⟨#[]⟩ : ByteArray)), xrr, H, ⟨xom⟩, ⟨xbk⟩, ⟨xbl⟩⟩
 }
 obtain ⟨Al, Ap⟩ := xqn c5
 (try (have An : Ae.toList.isEmpty = false := by simpa using c5))
 (first | rw [Al] | (simp only [ao, aq]; rw [Al]) | (rw [An]; (try simp only [Bool.not_false, Bool.not_true])) | skip)
 refine xin H ?_; clear H; intro c6 H
 obtain ⟨AX, AY⟩ := xcp c6
 try have AZ : (9223372036854775807 < Ae.size + 1) = False := eq_false (Nat.not_lt.2 c6)
 replace H := xa H
 have A6 := xz8 Aa.out
 go_wp2
 go_meet
 case rel => exact ⟨_, (Ae ++ (⟨#[58]⟩ : ByteArray)), xrr, H, ⟨xom⟩, ⟨xbk⟩, ⟨xbl⟩⟩
 )
 case rest => (
 clear Ao
 obtain ⟨kq, Ah, rfl, HA, HJ1, Aa, HB⟩ := hcut
 cases kq with
 | zero => exact absurd HA.out (by simp [dh])
 | succ kj1 => (
 have H := HA.out
 clear HA
 simp only [dh] at H
 have Aq := Zz.mk H
 clear H
 have A7 := xz8 Aa.out
 go_upto_if 11 with (fail)
 go_cut [3] (fun v3 wc => ∃ kq Ag, v3 = .string Ag ∧ Zz (ce kq Ag Ae Ai Af Ab Aj Ad Ak Ac = some r) ∧ Zz (kq ≤ kj1) ∧ Zz (wc.heap[Am]? = some (.cells #[.string Ae, .bool Ai, .string Af, .string Ab, .bool Aj, .string Ad, .bool Ak, .string Ac] 24 (0, 0))) ∧ Zz (Below w.heap.size w wc))
 case first => (
 have H := Aq.out
 clear Aq
 refine xib H ?_ ?_ <;> clear H <;> rintro rfl H
 {
 refine xin H ?_; clear H; intro c11 H
 obtain ⟨As, At⟩ := xcp c11
 try have Au : (9223372036854775807 < 2 + Af.size) = False := eq_false (Nat.not_lt.2 c11)
 refine xin H ?_; clear H; intro c12 H
 obtain ⟨Av, Aw⟩ := xcp c12
 try have Ax : (9223372036854775807 < Ah.size + ((⟨#[47, 47]⟩ : ByteArray) ++ Af).size) = False := eq_false (Nat.not_lt.2 c12)
 try have Ay : (9223372036854775807 < Ah.size + 2 + Af.size) = False := eq_false (Nat.not_lt.2 (by have h_ := c12; simp only [ByteArray.size_append] at h_; exact h_))
 replace H := xa H
 have A0 := xz8 Aa.out
 go_wp2
 go_meet
 case rel => exact ⟨_, (Ah ++ ((⟨#[47, 47]⟩ : ByteArray) ++ Af)), xrr, H, ⟨xoj HJ1⟩, ⟨xbk⟩, ⟨xbl⟩⟩
 }
 replace H := xa H
 go_wp2
 go_meet
 case rel => exact ⟨_, (Ah), xrr, H, ⟨xoj HJ1⟩, ⟨xbk⟩, ⟨xbl⟩⟩
 )
 case rest => (
 clear Aq
 obtain ⟨kq, Ag, rfl, HA, HJ7, Aa, HB⟩ := hcut
 cases kq with
 | zero => exact absurd HA.out (by simp [ce])
 | succ kj7 => (
 have H := HA.out
 clear HA
 simp only [ce] at H
 refine xin H ?_; clear H; intro c14 H
 obtain ⟨Az, AA⟩ := xcp c14
 try have AB : (9223372036854775807 < Ag.size + Ab.size) = False := eq_false (Nat.not_lt.2 c14)
 refine xib H ?_ ?_ <;> clear H <;> rintro rfl H
 {
 refine xin H ?_; clear H; intro c16 H
 obtain ⟨AC, AD⟩ := xcp c16
 try have AE : (9223372036854775807 < 1 + Ad.size) = False := eq_false (Nat.not_lt.2 c16)
 refine xin H ?_; clear H; intro c17 H
 obtain ⟨AF, AG⟩ := xcp c17
 try have AH : (9223372036854775807 < (Ag ++ Ab).size + ((⟨#[63]⟩ : ByteArray) ++ Ad).size) = False := eq_false (Nat.not_lt.2 c17)
 try have AI : (9223372036854775807 < Ag.size + Ab.size + 1 + Ad.size) = False := eq_false (Nat.not_lt.2 (by have h_ := c17; simp only [ByteArray.size_append] at h_; exact h_))
 refine xib H ?_ ?_ <;> clear H <;> rintro rfl H
 {
 refine xin H ?_; clear H; intro c19 H
 obtain ⟨AJ, AK⟩ := xcp c19
 try have AL : (9223372036854775807 < 1 + Ac.size) = False := eq_false (Nat.not_lt.2 c19)
 refine xin H ?_; clear H; intro c20 H
 obtain ⟨AM, AN⟩ := xcp c20
 try have AO : (9223372036854775807 < ((Ag ++ Ab) ++ ((⟨#[63]⟩ : ByteArray) ++ Ad)).size + ((⟨#[35]⟩ : ByteArray) ++ Ac).size) = False := eq_false (Nat.not_lt.2 c20)
 try have AP : (9223372036854775807 < Ag.size + Ab.size + 1 + Ad.size + 1 + Ac.size) = False := eq_false (Nat.not_lt.2 (by have h_ := c20; simp only [ByteArray.size_append] at h_; exact h_))
 obtain rfl := Option.some.inj H
 have A1 := xz8 Aa.out
 go_wp2
 go_ret
 exact ⟨xre, xbl⟩
 }
 obtain rfl := Option.some.inj H
 have A2 := xz8 Aa.out
 go_wp2
 go_ret
 exact ⟨xre, xbl⟩
 }
 refine xib H ?_ ?_ <;> clear H <;> rintro rfl H
 {
 refine xin H ?_; clear H; intro c24 H
 obtain ⟨AQ, AR⟩ := xcp c24
 try have AS : (9223372036854775807 < 1 + Ac.size) = False := eq_false (Nat.not_lt.2 c24)
 refine xin H ?_; clear H; intro c25 H
 obtain ⟨AT, AU⟩ := xcp c25
 try have AV : (9223372036854775807 < (Ag ++ Ab).size + ((⟨#[35]⟩ : ByteArray) ++ Ac).size) = False := eq_false (Nat.not_lt.2 c25)
 try have AW : (9223372036854775807 < Ag.size + Ab.size + 1 + Ac.size) = False := eq_false (Nat.not_lt.2 (by have h_ := c25; simp only [ByteArray.size_append] at h_; exact h_))
 obtain rfl := Option.some.inj H
 have A3 := xz8 Aa.out
 go_wp2
 go_ret
 exact ⟨xre, xbl⟩
 }
 obtain rfl := Option.some.inj H
 have A4 := xz8 Aa.out
 go_wp2
 go_ret
 exact ⟨xre, xbl⟩
 )
 )
 )
 )
attribute [local go_sem high] yo
mutual
def bL : Nat → Int → ByteArray → Bool → Option (Bool)
  | 0, _, _, _ => none
  | k + 1, x0, x1, Ad => if Ad = true then ((b8 k).bind fun Ab => (some Ab)) else ((e9 k x0 x1).bind fun Aa => (if x0 ≥ 4 then ((fZ k x1).bind fun Ac => (bi k x0 x1 Aa.2.2.2.2.2.2.2.2 (decide (Ac ≥ 0)) Aa.1 Aa.2.1 Aa.2.2.1 Aa.2.2.2.1 Aa.2.2.2.2.1 Aa.2.2.2.2.2.1 Aa.2.2.2.2.2.2.1 Aa.2.2.2.2.2.2.2.1)) else (bi k x0 x1 Aa.2.2.2.2.2.2.2.2 false Aa.1 Aa.2.1 Aa.2.2.1 Aa.2.2.2.1 Aa.2.2.2.2.1 Aa.2.2.2.2.2.1 Aa.2.2.2.2.2.2.1 Aa.2.2.2.2.2.2.2.1)))
def bi : Nat → Int → ByteArray → Int → Bool → ByteArray → Bool → ByteArray → ByteArray → Bool → ByteArray → Bool → ByteArray → Option (Bool)
  | 0, _, _, _, _, _, _, _, _, _, _, _, _ => none
  | k + 1, x0, x1, x6, An, Aa, Ab, Ac, Ad, Ae, Af, Ag, Ah => if An = true then (if x6 = 3 then (if (Aa.toList == ([] : List UInt8) && (!Ab && (Ac.toList == ([] : List UInt8) && (Ad.toList == ([] : List UInt8) && (!Ae && (Af.toList == ([] : List UInt8) && (!Ag && (Ah.toList == ([] : List UInt8))))))))) = true then ((b8 k).bind fun Aj => (some Aj)) else (some false)) else (some false)) else ((gQ k x0 x1).bind fun Ai => (if (Ai.length : Int) = 0 then (if x6 = 4 then (if (Aa.toList == ([] : List UInt8) && (!Ab && (Ac.toList == ([] : List UInt8) && (Ad.toList == ([] : List UInt8) && (!Ae && (Af.toList == ([] : List UInt8) && (!Ag && (Ah.toList == ([] : List UInt8))))))))) = true then ((b8 k).bind fun Ak => (some Ak)) else (some false)) else (some false)) else (if (Ai.length : Int) = 1 then (if x6 = 0 then (if 0 < (Ai.length : Int) then (if (Aa.toList == (((ag Ai 0).f0).toList) && (Ab == ((ag Ai 0).f1) && (Ac.toList == (((ag Ai 0).f2).toList) && (Ad.toList == (((ag Ai 0).f3).toList) && (Ae == ((ag Ai 0).f4) && (Af.toList == (((ag Ai 0).f5).toList) && (Ag == ((ag Ai 0).f6) && (Ah.toList == (((ag Ai 0).f7).toList))))))))) = true then ((fm k Aa Ab Ac Ad Ae Af Ag Ah).bind fun Al => (if Al.toList = x1.toList then ((b8 k).bind fun Am => (some Am)) else (some false))) else (some false)) else (none)) else (some false)) else (some false))))
end
def fX (k : Nat) (a0 : Int) (a1 : ByteArray) : Option (Bool) := if (a1.size : Int) > 30 then (bL k a0 a1 true) else (if a0 < 1 then (bL k a0 a1 true) else (bL k a0 a1 (decide (a0 > 5))))
theorem lv (k : Nat) (a0 : Int) (a1 : ByteArray) (r : Bool) (w : World) (hG : GW w) (h : fX k a0 a1 = some r) :
    Calls Tryz.prog 3 #[.int .i64 a0, .string a1] w fun e w' => e = .returned (.bool r) ∧ Below w.heap.size w w' := by
 have hu24 := Tryz.underlying24
 have HB := Zz.mk (Below.refl w.heap.size w)
 have H := h
 clear h
 unfold fX at H
 have AX := Zz.mk H
 clear H
 go_enter Tryz.func3, Tryz.ntmps3
 go_upto_region 1 with (fail)
 go_cut [18] (fun v18 wc => ∃ kq Ax, v18 = .bool Ax ∧ Zz (bL kq a0 a1 Ax = some r) ∧ Zz (kq ≤ k) ∧ Zz (Below w.heap.size w wc))
 case first => (
 have H := AX.out
 clear AX
 refine xid H ?_ ?_ <;> clear H <;> intro c4 H
 {
 have Ay := xdt c4
 have AY : decide (30 < a1.size) = true := decide_eq_true (by omega)
 clear c4
 (first | rw [Ay] | (simp only [ao, aq]; rw [Ay]) | skip)
 replace H := xa H
 go_wp2
 go_meet
 case rel => exact ⟨_, (true), xrr, H, ⟨xom⟩, ⟨xbl⟩⟩
 }
 have Ay := xdf c4
 have AY : decide (30 < a1.size) = false := decide_eq_false (by omega)
 clear c4
 (first | rw [Ay] | (simp only [ao, aq]; rw [Ay]) | skip)
 refine xid H ?_ ?_ <;> clear H <;> intro c5 H
 {
 have AZ := xdt c5
 clear c5
 replace H := xa H
 go_wp2
 go_meet
 case rel => exact ⟨_, (true), xrr, H, ⟨xom⟩, ⟨xbl⟩⟩
 }
 have AZ := xdf c5
 clear c5
 replace H := xa H
 go_wp2
 go_meet
 case rel => exact ⟨_, (decide (a0 > 5)), xrr, H, ⟨xom⟩, ⟨xbl⟩⟩
 )
 case rest => (
 clear AX
 obtain ⟨kq, Ax, rfl, HA, HJ2, HB⟩ := hcut
 cases kq with
 | zero => exact absurd HA.out (by simp [bL])
 | succ kj2 => (
 have H := HA.out
 clear HA
 simp only [bL] at H
 refine xib H ?_ ?_ <;> clear H <;> rintro rfl H
 {
 replace H := xbd H
 obtain ⟨A0, A7, H⟩ := H
 try dsimp only at H
 obtain rfl := Option.some.inj H
 go_wp2_with (first | ((with_reducible refine xgc (f := 6) rfl ?_); refine xgl 19 Tryz.func6 #[] ?_; (with_reducible refine (fY kj2  A0 _ ?side1 A7.out).mono ?_); (case side1 => first | (with_reducible exact hG) | exact fz hG xbl); rintro e w8 ⟨rfl, hb⟩; refine ⟨_, rfl, ?_⟩; replace HB := xst hb; (try clear hb)))
 go_ret
 exact ⟨xre, xbl⟩
 }
 replace H := xbd H
 obtain ⟨⟨Af, Ag, Ah, Ai, Aj, Ak, Al, Am, A1⟩, A9, H⟩ := H
 try dsimp only at H
 have AD := Zz.mk H
 clear H
 go_upto_region 4 with (first | ((with_reducible refine xgc (f := 7) rfl ?_); refine xca 23 Tryz.func7 (lS (w := _) (hG := xG) (h := A9.out)) ?_; rintro w11 hb; replace HB := xst hb; (try clear hb)) | ((with_reducible refine aj (N := 5) rfl ?_); refine xew 5 ?_; intro Ac w12 Aa A6 hb hg; replace HB := xst hb; clear hb hg; have Bf := xz8 Aa.out))
 (try simp only [Act.put, xl1, xl2, xl3])
 go_cut [32] (fun v32 wc => ∃ kq Az, v32 = .bool Az ∧ Zz (bi kq a0 a1 A1 Az Af Ag Ah Ai Aj Ak Al Am = some r) ∧ Zz (kq ≤ kj2) ∧ Zz (wc.heap[Ac]? = some (.cells #[.string Af, .bool Ag, .string Ah, .string Ai, .bool Aj, .string Ak, .bool Al, .string Am] 24 (0, 0))) ∧ Zz (Below w.heap.size w wc))
 case first => (
 have H := AD.out
 clear AD
 refine xid H ?_ ?_ <;> clear H <;> intro c14 H
 {
 have Av := xdt c14
 clear c14
 (first | rw [Av] | (simp only [ao, aq]; rw [Av]) | skip)
 replace H := xbd H
 obtain ⟨A2, A15, H⟩ := H
 try dsimp only at H
 replace H := xa H
 go_wp2_with (first | (go_at_call 8; (with_reducible refine (mE (w := _) (h := A15.out)).mono ?_); rintro e w16 ⟨rfl, hb⟩; replace Aa := xbb (g := Ac) (o := .cells #[.string Af, .bool Ag, .string Ah, .string Ai, .bool Aj, .string Ak, .bool Al, .string Am] 24 (0, 0)) hb; replace HB := xst hb; (try clear hb)))
 go_meet
 case rel => exact ⟨_, (decide (A2 ≥ 0)), xrr, H, ⟨xoj HJ2⟩, ⟨xbk⟩, ⟨xbl⟩⟩
 }
 have Av := xdf c14
 clear c14
 (first | rw [Av] | (simp only [ao, aq]; rw [Av]) | skip)
 replace H := xa H
 go_wp2
 go_meet
 case rel => exact ⟨_, (false), xrr, H, ⟨xoj HJ2⟩, ⟨xbK⟩, ⟨xbl⟩⟩
 )
 case rest => (
 clear AD
 obtain ⟨kq, Az, rfl, HA, HJ9, Aa, HB⟩ := hcut
 cases kq with
 | zero => exact absurd HA.out (by simp [bi])
 | succ kj9 => (
 have H := HA.out
 clear HA
 simp only [bi] at H
 refine xib H ?_ ?_ <;> clear H <;> rintro rfl H
 {
 refine xid H ?_ ?_ <;> clear H <;> intro c18 H
 {
 obtain ⟨AE, AF⟩ := xqe c18
 clear c18
 refine xid H ?_ ?_ <;> clear H <;> intro c19 H
 {
 have AA : (Af.toList == ([] : List UInt8) && (!Ag && (Ah.toList == ([] : List UInt8) && (Ai.toList == ([] : List UInt8) && (!Aj && (Ak.toList == ([] : List UInt8) && (!Al && (Am.toList == ([] : List UInt8))))))))) = true := c19
 try (have c19b0e := AA; simp only [oA] at c19b0e)
 (try (have AG : decide (Af.toList = ([] : List UInt8) && (!Ag && (Ah.toList == ([] : List UInt8) && (Ai.toList == ([] : List UInt8) && (!Aj && (Ak.toList == ([] : List UInt8) && (!Al && (Am.toList == ([] : List UInt8))))))))) = true := by simpa using c19))
 (try (have AH : (Af.toList == ([] : List UInt8) && (!Ag && (Ah.toList == ([] : List UInt8) && (Ai.toList == ([] : List UInt8) && (!Aj && (Ak.toList == ([] : List UInt8) && (!Al && (Am.toList == ([] : List UInt8))))))))) = true := by simpa using c19))
 clear c19
 replace H := xbd H
 obtain ⟨A3, A20, H⟩ := H
 try dsimp only at H
 obtain rfl := Option.some.inj H
 have Bg := xz8 Aa.out
 go_wp2_with (first | (go_at_call 6; (with_reducible refine (fY kj9  A3 _ ?side1 A20.out).mono ?_); (case side1 => first | (with_reducible exact hG) | exact fz hG xbl); rintro e w22 ⟨rfl, hb⟩; replace Aa := xbb (g := Ac) (o := .cells #[.string Af, .bool Ag, .string Ah, .string Ai, .bool Aj, .string Ak, .bool Al, .string Am] 24 (0, 0)) hb; replace HB := xst hb; (try clear hb)))
 go_ret
 exact ⟨xre, xbl⟩
 }
 have AA : (Af.toList == ([] : List UInt8) && (!Ag && (Ah.toList == ([] : List UInt8) && (Ai.toList == ([] : List UInt8) && (!Aj && (Ak.toList == ([] : List UInt8) && (!Al && (Am.toList == ([] : List UInt8))))))))) = false := by simpa using c19
 try (have c19b0e := AA; simp only [oA] at c19b0e)
 (try (have AG : decide (Af.toList = ([] : List UInt8) && (!Ag && (Ah.toList == ([] : List UInt8) && (Ai.toList == ([] : List UInt8) && (!Aj && (Ak.toList == ([] : List UInt8) && (!Al && (Am.toList == ([] : List UInt8))))))))) = false := by simpa using c19))
 (try (have AH : (Af.toList == ([] : List UInt8) && (!Ag && (Ah.toList == ([] : List UInt8) && (Ai.toList == ([] : List UInt8) && (!Aj && (Ak.toList == ([] : List UInt8) && (!Al && (Am.toList == ([] : List UInt8))))))))) = false := by simpa using c19))
 (try (have A8 : ¬ (Af.toList = ([] : List UInt8) && (!Ag && (Ah.toList == ([] : List UInt8) && (Ai.toList == ([] : List UInt8) && (!Aj && (Ak.toList == ([] : List UInt8) && (!Al && (Am.toList == ([] : List UInt8))))))))) := by simpa using c19))
 clear c19
 obtain rfl := Option.some.inj H
 have Bh := xz8 Aa.out
 go_wp2
 go_ret
 exact ⟨xre, xbl⟩
 }
 obtain ⟨AE, AF⟩ := xqn c18
 obtain rfl := Option.some.inj H
 go_wp2
 go_ret
 exact ⟨xre, xbl⟩
 }
 replace H := xbd H
 obtain ⟨Ab, A24, H⟩ := H
 try dsimp only at H
 refine xid H ?_ ?_ <;> clear H <;> intro c25 H
 {
 obtain ⟨AI, AJ⟩ := xqe c25
 clear c25
 refine xid H ?_ ?_ <;> clear H <;> intro c26 H
 {
 obtain ⟨AK, AL⟩ := xqe c26
 clear c26
 refine xid H ?_ ?_ <;> clear H <;> intro c27 H
 {
 have AB : (Af.toList == ([] : List UInt8) && (!Ag && (Ah.toList == ([] : List UInt8) && (Ai.toList == ([] : List UInt8) && (!Aj && (Ak.toList == ([] : List UInt8) && (!Al && (Am.toList == ([] : List UInt8))))))))) = true := c27
 try (have c27b0e := AB; simp only [oA] at c27b0e)
 (try (have AM : decide (Af.toList = ([] : List UInt8) && (!Ag && (Ah.toList == ([] : List UInt8) && (Ai.toList == ([] : List UInt8) && (!Aj && (Ak.toList == ([] : List UInt8) && (!Al && (Am.toList == ([] : List UInt8))))))))) = true := by simpa using c27))
 (try (have AN : (Af.toList == ([] : List UInt8) && (!Ag && (Ah.toList == ([] : List UInt8) && (Ai.toList == ([] : List UInt8) && (!Aj && (Ak.toList == ([] : List UInt8) && (!Al && (Am.toList == ([] : List UInt8))))))))) = true := by simpa using c27))
 clear c27
 replace H := xbd H
 obtain ⟨A4, A28, H⟩ := H
 try dsimp only at H
 obtain rfl := Option.some.inj H
 go_wp2_with (first | ((with_reducible refine xgc (f := 9) rfl ?_); refine xgl 45 Tryz.func9 #[.int .i64 a0, .string a1] ?_; (with_reducible refine (cE (w := _) (h := A24.out)).mono ?_); rintro e w29 ⟨v745, rfl, ho0, hb⟩; refine ⟨_, rfl, ?_⟩; have Ae := Zz.mk (Kd.R_lower (Kd.R_newB ho0 (g := Ac) (o := .cells #[.string Af, .bool Ag, .string Ah, .string Ai, .bool Aj, .string Ak, .bool Al, .string Am] 24 (0, 0)) xbk) (ar xbl)); replace Aa := xbb (g := Ac) (o := .cells #[.string Af, .bool Ag, .string Ah, .string Ai, .bool Aj, .string Ak, .bool Al, .string Am] 24 (0, 0)) hb; replace HB := xst hb; (try clear hb); (try clear ho0); obtain ⟨Ao30, co30, eo30⟩ := Kd.R_slice Ae.out; subst eo30; have Bi := xz8 Aa.out) | (go_at_call 6; (with_reducible refine (fY kj9  A4 _ ?side1 A28.out).mono ?_); (case side1 => first | (with_reducible exact hG) | exact fz hG xbl); rintro e w32 ⟨rfl, hb⟩; replace Ae := Zz.mk (Kd.R_below (xkd Ae) hb); replace Aa := xbb (g := Ac) (o := .cells #[.string Af, .bool Ag, .string Ah, .string Ai, .bool Aj, .string Ak, .bool Al, .string Am] 24 (0, 0)) hb; replace HB := xst hb; (try clear hb)))
 go_ret
 exact ⟨xre, xbl⟩
 }
 have AB : (Af.toList == ([] : List UInt8) && (!Ag && (Ah.toList == ([] : List UInt8) && (Ai.toList == ([] : List UInt8) && (!Aj && (Ak.toList == ([] : List UInt8) && (!Al && (Am.toList == ([] : List UInt8))))))))) = false := by simpa using c27
 try (have c27b0e := AB; simp only [oA] at c27b0e)
 (try (have AM : decide (Af.toList = ([] : List UInt8) && (!Ag && (Ah.toList == ([] : List UInt8) && (Ai.toList == ([] : List UInt8) && (!Aj && (Ak.toList == ([] : List UInt8) && (!Al && (Am.toList == ([] : List UInt8))))))))) = false := by simpa using c27))
 (try (have AN : (Af.toList == ([] : List UInt8) && (!Ag && (Ah.toList == ([] : List UInt8) && (Ai.toList == ([] : List UInt8) && (!Aj && (Ak.toList == ([] : List UInt8) && (!Al && (Am.toList == ([] : List UInt8))))))))) = false := by simpa using c27))
 (try (have Ba : ¬ (Af.toList = ([] : List UInt8) && (!Ag && (Ah.toList == ([] : List UInt8) && (Ai.toList == ([] : List UInt8) && (!Aj && (Ak.toList == ([] : List UInt8) && (!Al && (Am.toList == ([] : List UInt8))))))))) := by simpa using c27))
 clear c27
 obtain rfl := Option.some.inj H
 go_wp2_with (first | ((with_reducible refine xgc (f := 9) rfl ?_); refine xgl 45 Tryz.func9 #[.int .i64 a0, .string a1] ?_; (with_reducible refine (cE (w := _) (h := A24.out)).mono ?_); rintro e w33 ⟨v745, rfl, ho0, hb⟩; refine ⟨_, rfl, ?_⟩; have Ae := Zz.mk (Kd.R_lower (Kd.R_newB ho0 (g := Ac) (o := .cells #[.string Af, .bool Ag, .string Ah, .string Ai, .bool Aj, .string Ak, .bool Al, .string Am] 24 (0, 0)) xbk) (ar xbl)); replace Aa := xbb (g := Ac) (o := .cells #[.string Af, .bool Ag, .string Ah, .string Ai, .bool Aj, .string Ak, .bool Al, .string Am] 24 (0, 0)) hb; replace HB := xst hb; (try clear hb); (try clear ho0); obtain ⟨Ao34, co34, eo34⟩ := Kd.R_slice Ae.out; subst eo34; have Bj := xz8 Aa.out))
 go_ret
 exact ⟨xre, xbl⟩
 }
 obtain ⟨AK, AL⟩ := xqn c26
 obtain rfl := Option.some.inj H
 go_wp2_with (first | ((with_reducible refine xgc (f := 9) rfl ?_); refine xgl 45 Tryz.func9 #[.int .i64 a0, .string a1] ?_; (with_reducible refine (cE (w := _) (h := A24.out)).mono ?_); rintro e w36 ⟨v745, rfl, ho0, hb⟩; refine ⟨_, rfl, ?_⟩; have Ae := Zz.mk (Kd.R_lower (Kd.R_newB ho0 (g := Ac) (o := .cells #[.string Af, .bool Ag, .string Ah, .string Ai, .bool Aj, .string Ak, .bool Al, .string Am] 24 (0, 0)) xbk) (ar xbl)); replace Aa := xbb (g := Ac) (o := .cells #[.string Af, .bool Ag, .string Ah, .string Ai, .bool Aj, .string Ak, .bool Al, .string Am] 24 (0, 0)) hb; replace HB := xst hb; (try clear hb); (try clear ho0); obtain ⟨Ao37, co37, eo37⟩ := Kd.R_slice Ae.out; subst eo37))
 go_ret
 exact ⟨xre, xbl⟩
 }
 obtain ⟨AI, AJ⟩ := xqn c25
 have Bb : ¬ (Ab = []) := fun h_ => c25 (by rw [h_]; rfl)
 refine xid H ?_ ?_ <;> clear H <;> intro c38 H
 {
 obtain ⟨AO, AP⟩ := xqe c38
 clear c38
 refine xid H ?_ ?_ <;> clear H <;> intro c39 H
 {
 obtain ⟨AQ, AR⟩ := xqe c39
 clear c39
 refine xin H ?_; clear H; intro c40 H
 have Bc := xdt c40
 have Bd : decide (0 < Ab.length) = true := decide_eq_true (by omega)
 clear c40
 refine xid H ?_ ?_ <;> clear H <;> intro c41 H
 {
 have AS : (Af.toList == (((ag Ab 0).f0).toList) && (Ag == ((ag Ab 0).f1) && (Ah.toList == (((ag Ab 0).f2).toList) && (Ai.toList == (((ag Ab 0).f3).toList) && (Aj == ((ag Ab 0).f4) && (Ak.toList == (((ag Ab 0).f5).toList) && (Al == ((ag Ab 0).f6) && (Am.toList == (((ag Ab 0).f7).toList))))))))) = true := c41
 (try (have AT : decide (Af.toList = (((ag Ab 0).f0).toList) && (Ag == ((ag Ab 0).f1) && (Ah.toList == (((ag Ab 0).f2).toList) && (Ai.toList == (((ag Ab 0).f3).toList) && (Aj == ((ag Ab 0).f4) && (Ak.toList == (((ag Ab 0).f5).toList) && (Al == ((ag Ab 0).f6) && (Am.toList == (((ag Ab 0).f7).toList))))))))) = true := by simpa using c41))
 (try (have AU : (Af.toList == (((ag Ab 0).f0).toList) && (Ag == ((ag Ab 0).f1) && (Ah.toList == (((ag Ab 0).f2).toList) && (Ai.toList == (((ag Ab 0).f3).toList) && (Aj == ((ag Ab 0).f4) && (Ak.toList == (((ag Ab 0).f5).toList) && (Al == ((ag Ab 0).f6) && (Am.toList == (((ag Ab 0).f7).toList))))))))) = true := by simpa using c41))
 clear c41
 replace H := xbd H
 obtain ⟨Bk, A42, H⟩ := H
 try dsimp only at H
 refine xid H ?_ ?_ <;> clear H <;> intro c43 H
 {
 obtain ⟨AV, AW⟩ := xqe c43
 clear c43
 replace H := xbd H
 obtain ⟨A5, A44, H⟩ := H
 try dsimp only at H
 obtain rfl := Option.some.inj H
 try go_wp2_with (first | ((with_reducible refine xgc (f := 9) rfl ?_); refine xgl 45 Tryz.func9 #[.int .i64 a0, .string a1] ?_; (with_reducible refine (cE (w := _) (h := A24.out)).mono ?_); rintro e w45 ⟨v745, rfl, ho0, hb⟩; refine ⟨_, rfl, ?_⟩; have Ae := Zz.mk (Kd.R_lower (Kd.R_newB ho0 (g := Ac) (o := .cells #[.string Af, .bool Ag, .string Ah, .string Ai, .bool Aj, .string Ak, .bool Al, .string Am] 24 (0, 0)) xbk) (ar xbl)); replace Aa := xbb (g := Ac) (o := .cells #[.string Af, .bool Ag, .string Ah, .string Ai, .bool Aj, .string Ak, .bool Al, .string Am] 24 (0, 0)) hb; replace HB := xst hb; (try clear hb); (try clear ho0); obtain ⟨Ao46, co46, eo46⟩ := Kd.R_slice Ae.out; subst eo46))
 replace Ae := Zz.mk (Kd.R_drew Ae.out)
 replace Aa := Zz.mk (bq Aa.out)
 replace HB := Zz.mk (aC HB.out)
 have p748 : 0 ≤ (0 : Int) := (by omega)
 have q748 : 0 < (Ab.length : Int) := xod
 obtain ⟨Ad, e748, An, Ao, Ap, Aq, Ar, As, At, Au⟩ := lE (Kd.R_reads' Ae.out).2.2 0 p748 q748
 cases e748
 have AC : (0 < Ab.length) = True := eq_true (by omega)
 (try rw [show ((0 : Int)).toNat = 0 from rfl] at An)
 (try rw [show 0 * 8 = 0 from rfl] at An)
 (try rw [Addr.add_zero'] at An)
 (try rw [show ((0 : Int)).toNat = 0 from rfl] at Ao)
 (try rw [show 0 * 8 = 0 from rfl] at Ao)
 (try rw [Addr.add_zero'] at Ao)
 (try rw [show ((0 : Int)).toNat = 0 from rfl] at Ap)
 (try rw [show 0 * 8 = 0 from rfl] at Ap)
 (try rw [Addr.add_zero'] at Ap)
 (try rw [show ((0 : Int)).toNat = 0 from rfl] at Aq)
 (try rw [show 0 * 8 = 0 from rfl] at Aq)
 (try rw [Addr.add_zero'] at Aq)
 (try rw [show ((0 : Int)).toNat = 0 from rfl] at Ar)
 (try rw [show 0 * 8 = 0 from rfl] at Ar)
 (try rw [Addr.add_zero'] at Ar)
 (try rw [show ((0 : Int)).toNat = 0 from rfl] at As)
 (try rw [show 0 * 8 = 0 from rfl] at As)
 (try rw [Addr.add_zero'] at As)
 (try rw [show ((0 : Int)).toNat = 0 from rfl] at At)
 (try rw [show 0 * 8 = 0 from rfl] at At)
 (try rw [Addr.add_zero'] at At)
 (try rw [show ((0 : Int)).toNat = 0 from rfl] at Au)
 (try rw [show 0 * 8 = 0 from rfl] at Au)
 (try rw [Addr.add_zero'] at Au)
 replace p748 := eq_true p748
 replace q748 := eq_true q748
 try (have Aw := q748; simp only [ByteArray.size_extract, Nat.min_self] at Aw)
 refine kA (n := 24) (S := fun w' => w'.cell? ⟨Ac, 0, none⟩ = some (.string Af) ∧ w'.cell? ⟨Ac, 1, none⟩ = some (.bool Ag) ∧ w'.cell? ⟨Ac, 2, none⟩ = some (.string Ah) ∧ w'.cell? ⟨Ac, 3, none⟩ = some (.string Ai) ∧ w'.cell? ⟨Ac, 4, none⟩ = some (.bool Aj) ∧ w'.cell? ⟨Ac, 5, none⟩ = some (.string Ak) ∧ w'.cell? ⟨Ac, 6, none⟩ = some (.bool Al) ∧ w'.cell? ⟨Ac, 7, none⟩ = some (.string Am) ∧ w'.cell? Ad = some (.string ((ag Ab 0).f0)) ∧ w'.cell? ⟨Ad.block, Ad.off + 1, none⟩ = some (.bool ((ag Ab 0).f1)) ∧ w'.cell? ⟨Ad.block, Ad.off + 2, none⟩ = some (.string ((ag Ab 0).f2)) ∧ w'.cell? ⟨Ad.block, Ad.off + 3, none⟩ = some (.string ((ag Ab 0).f3)) ∧ w'.cell? ⟨Ad.block, Ad.off + 4, none⟩ = some (.bool ((ag Ab 0).f4)) ∧ w'.cell? ⟨Ad.block, Ad.off + 5, none⟩ = some (.string ((ag Ab 0).f5)) ∧ w'.cell? ⟨Ad.block, Ad.off + 6, none⟩ = some (.bool ((ag Ab 0).f6)) ∧ w'.cell? ⟨Ad.block, Ad.off + 7, none⟩ = some (.string ((ag Ab 0).f7))) (ds := []) #[false, false, false, false, false, false, false, false, false, false, false, false, false, false, false, false, false, false, false, false, false, false, false, false] (by kernel_rfl) rfl rfl ⟨(ak Aa.out 0).trans rfl, (ak Aa.out 1).trans rfl, (ak Aa.out 2).trans rfl, (ak Aa.out 3).trans rfl, (ak Aa.out 4).trans rfl, (ak Aa.out 5).trans rfl, (ak Aa.out 6).trans rfl, (ak Aa.out 7).trans rfl, An, Ao, Ap, Aq, Ar, As, At, Au⟩ (fun hHeld => ?_)
 generalize w45.drew = w47 at Ae Aa HB An Ao Ap Aq Ar As At Au hHeld ⊢
 refine xpu 0 59 ?_
 refine xpu 1 60 ?_
 refine xpu 2 61 ?_
 refine xpu 3 62 ?_
 refine xpu 4 63 ?_
 refine xpu 5 64 ?_
 refine xpu 6 65 ?_
 refine xpu 7 66 ?_
 refine xpu 9 68 ?_
 refine xpu 10 69 ?_
 refine xtk 8 67 ?_
 refine xtk 11 70 ?_
 refine xpu 12 71 ?_
 refine xpu 13 72 ?_
 refine xpu 14 73 ?_
 refine xpu 17 76 ?_
 refine xtk 15 74 ?_
 refine jl (i := 16) (N := some 75) #[true, true, true, true, true, true, true, true, true, true, true, true, true, true, true, true, true, true, false, false, false, false, false, false] rfl rfl (iQ rfl (by kernel_rfl)) (by decide) (fun K hK => ?_)
 refine lz Tryz.func10 (by kernel_rfl) rfl #[.agg #[.string Af, .bool Ag, .string Ah, .string Ai, .bool Aj, .string Ak, .bool Al, .string Am]] (by rfl) rfl rfl (by (try simp only [List.map_toArray, List.map_cons, List.map_nil]); first | done | rfl | (simp only [List.length_drop, List.length_take]; rfl)) ?_
 (with_reducible refine (kn (w := _) (h := A42.out)).mono ?_)
 rintro e w48 ⟨rfl, hb⟩
 have HS8_ := (hb.cell (World.block_lt_of_cell? _ _ (hHeld.2.2.2.2.2.2.2.2.1))).trans (hHeld.2.2.2.2.2.2.2.2.1)
 have HS9_ := (hb.cell (World.block_lt_of_cell? _ _ (hHeld.2.2.2.2.2.2.2.2.2.1))).trans (hHeld.2.2.2.2.2.2.2.2.2.1)
 have HS10_ := (hb.cell (World.block_lt_of_cell? _ _ (hHeld.2.2.2.2.2.2.2.2.2.2.1))).trans (hHeld.2.2.2.2.2.2.2.2.2.2.1)
 have HS11_ := (hb.cell (World.block_lt_of_cell? _ _ (hHeld.2.2.2.2.2.2.2.2.2.2.2.1))).trans (hHeld.2.2.2.2.2.2.2.2.2.2.2.1)
 have HS12_ := (hb.cell (World.block_lt_of_cell? _ _ (hHeld.2.2.2.2.2.2.2.2.2.2.2.2.1))).trans (hHeld.2.2.2.2.2.2.2.2.2.2.2.2.1)
 have HS13_ := (hb.cell (World.block_lt_of_cell? _ _ (hHeld.2.2.2.2.2.2.2.2.2.2.2.2.2.1))).trans (hHeld.2.2.2.2.2.2.2.2.2.2.2.2.2.1)
 have HS14_ := (hb.cell (World.block_lt_of_cell? _ _ (hHeld.2.2.2.2.2.2.2.2.2.2.2.2.2.2.1))).trans (hHeld.2.2.2.2.2.2.2.2.2.2.2.2.2.2.1)
 have HS15_ := (hb.cell (World.block_lt_of_cell? _ _ (hHeld.2.2.2.2.2.2.2.2.2.2.2.2.2.2.2))).trans (hHeld.2.2.2.2.2.2.2.2.2.2.2.2.2.2.2)
 refine ⟨_, rfl, ?_⟩
 replace Ae := Zz.mk (Kd.R_below (xkd Ae) hb)
 replace Aa := xbb (g := Ac) (o := .cells #[.string Af, .bool Ag, .string Ah, .string Ai, .bool Aj, .string Ak, .bool Al, .string Am] 24 (0, 0)) hb
 replace HB := xst hb
 (try clear hb)
 refine hK.out _ _ ⟨(ak Aa.out 0).trans rfl, (ak Aa.out 1).trans rfl, (ak Aa.out 2).trans rfl, (ak Aa.out 3).trans rfl, (ak Aa.out 4).trans rfl, (ak Aa.out 5).trans rfl, (ak Aa.out 6).trans rfl, (ak Aa.out 7).trans rfl, HS8_, HS9_, HS10_, HS11_, HS12_, HS13_, HS14_, HS15_⟩ (fun hHeld => ?_)
 clear hK K
 refine gH (a' := ?_) ?_ ?_
 rotate_left
 {
 show Act.put _ (some 75) _ = _
 simp only [Act.put, xl1, xl2, xl3, ao, aq]
 rfl
 }
 refine xpu 18 77 ?_
 refine xpu 19 78 ?_
 refine xpu 20 79 ?_
 refine jl (i := 21) (N := some 80) #[true, true, true, true, true, true, true, true, true, true, true, true, true, true, true, true, true, true, true, true, true, true, false, false] rfl rfl (iQ rfl (by kernel_rfl)) (by decide) (fun K hK => ?_)
 refine lz Tryz.func6 (by kernel_rfl) rfl #[] (by rfl) rfl rfl (by (try simp only [List.map_toArray, List.map_cons, List.map_nil]); first | done | rfl | (simp only [List.length_drop, List.length_take]; rfl)) ?_
 with_reducible refine (fY kj9  A5 _ ?side1 A44.out).mono ?_
 (case side1 => first | (with_reducible exact hG) | exact fz hG xbl)
 rintro e w49 ⟨rfl, hb⟩
 have HS8_ := (hb.cell (World.block_lt_of_cell? _ _ (hHeld.2.2.2.2.2.2.2.2.1))).trans (hHeld.2.2.2.2.2.2.2.2.1)
 have HS9_ := (hb.cell (World.block_lt_of_cell? _ _ (hHeld.2.2.2.2.2.2.2.2.2.1))).trans (hHeld.2.2.2.2.2.2.2.2.2.1)
 have HS10_ := (hb.cell (World.block_lt_of_cell? _ _ (hHeld.2.2.2.2.2.2.2.2.2.2.1))).trans (hHeld.2.2.2.2.2.2.2.2.2.2.1)
 have HS11_ := (hb.cell (World.block_lt_of_cell? _ _ (hHeld.2.2.2.2.2.2.2.2.2.2.2.1))).trans (hHeld.2.2.2.2.2.2.2.2.2.2.2.1)
 have HS12_ := (hb.cell (World.block_lt_of_cell? _ _ (hHeld.2.2.2.2.2.2.2.2.2.2.2.2.1))).trans (hHeld.2.2.2.2.2.2.2.2.2.2.2.2.1)
 have HS13_ := (hb.cell (World.block_lt_of_cell? _ _ (hHeld.2.2.2.2.2.2.2.2.2.2.2.2.2.1))).trans (hHeld.2.2.2.2.2.2.2.2.2.2.2.2.2.1)
 have HS14_ := (hb.cell (World.block_lt_of_cell? _ _ (hHeld.2.2.2.2.2.2.2.2.2.2.2.2.2.2.1))).trans (hHeld.2.2.2.2.2.2.2.2.2.2.2.2.2.2.1)
 have HS15_ := (hb.cell (World.block_lt_of_cell? _ _ (hHeld.2.2.2.2.2.2.2.2.2.2.2.2.2.2.2))).trans (hHeld.2.2.2.2.2.2.2.2.2.2.2.2.2.2.2)
 refine ⟨_, rfl, ?_⟩
 replace Ae := Zz.mk (Kd.R_below (xkd Ae) hb)
 replace Aa := xbb (g := Ac) (o := .cells #[.string Af, .bool Ag, .string Ah, .string Ai, .bool Aj, .string Ak, .bool Al, .string Am] 24 (0, 0)) hb
 replace HB := xst hb
 (try clear hb)
 refine hK.out _ _ ⟨(ak Aa.out 0).trans rfl, (ak Aa.out 1).trans rfl, (ak Aa.out 2).trans rfl, (ak Aa.out 3).trans rfl, (ak Aa.out 4).trans rfl, (ak Aa.out 5).trans rfl, (ak Aa.out 6).trans rfl, (ak Aa.out 7).trans rfl, HS8_, HS9_, HS10_, HS11_, HS12_, HS13_, HS14_, HS15_⟩ (fun hHeld => ?_)
 clear hK K
 refine gH (a' := ?_) ?_ ?_
 rotate_left
 {
 show Act.put _ (some 80) _ = _
 simp only [Act.put, xl1, xl2, xl3, ao, aq]
 rfl
 }
 refine xpu 22 81 ?_
 refine xpu 23 4 ?_
 refine xdn ?_
 try go_wp2
 go_ret
 exact ⟨xre, xbl⟩
 }
 obtain ⟨AV, AW⟩ := xqn c43
 obtain rfl := Option.some.inj H
 try go_wp2_with (first | ((with_reducible refine xgc (f := 9) rfl ?_); refine xgl 45 Tryz.func9 #[.int .i64 a0, .string a1] ?_; (with_reducible refine (cE (w := _) (h := A24.out)).mono ?_); rintro e w50 ⟨v745, rfl, ho0, hb⟩; refine ⟨_, rfl, ?_⟩; have Ae := Zz.mk (Kd.R_lower (Kd.R_newB ho0 (g := Ac) (o := .cells #[.string Af, .bool Ag, .string Ah, .string Ai, .bool Aj, .string Ak, .bool Al, .string Am] 24 (0, 0)) xbk) (ar xbl)); replace Aa := xbb (g := Ac) (o := .cells #[.string Af, .bool Ag, .string Ah, .string Ai, .bool Aj, .string Ak, .bool Al, .string Am] 24 (0, 0)) hb; replace HB := xst hb; (try clear hb); (try clear ho0); obtain ⟨Ao51, co51, eo51⟩ := Kd.R_slice Ae.out; subst eo51))
 replace Ae := Zz.mk (Kd.R_drew Ae.out)
 replace Aa := Zz.mk (bq Aa.out)
 replace HB := Zz.mk (aC HB.out)
 have p748 : 0 ≤ (0 : Int) := (by omega)
 have q748 : 0 < (Ab.length : Int) := xod
 obtain ⟨Ad, e748, An, Ao, Ap, Aq, Ar, As, At, Au⟩ := lE (Kd.R_reads' Ae.out).2.2 0 p748 q748
 cases e748
 have AC : (0 < Ab.length) = True := eq_true (by omega)
 (try rw [show ((0 : Int)).toNat = 0 from rfl] at An)
 (try rw [show 0 * 8 = 0 from rfl] at An)
 (try rw [Addr.add_zero'] at An)
 (try rw [show ((0 : Int)).toNat = 0 from rfl] at Ao)
 (try rw [show 0 * 8 = 0 from rfl] at Ao)
 (try rw [Addr.add_zero'] at Ao)
 (try rw [show ((0 : Int)).toNat = 0 from rfl] at Ap)
 (try rw [show 0 * 8 = 0 from rfl] at Ap)
 (try rw [Addr.add_zero'] at Ap)
 (try rw [show ((0 : Int)).toNat = 0 from rfl] at Aq)
 (try rw [show 0 * 8 = 0 from rfl] at Aq)
 (try rw [Addr.add_zero'] at Aq)
 (try rw [show ((0 : Int)).toNat = 0 from rfl] at Ar)
 (try rw [show 0 * 8 = 0 from rfl] at Ar)
 (try rw [Addr.add_zero'] at Ar)
 (try rw [show ((0 : Int)).toNat = 0 from rfl] at As)
 (try rw [show 0 * 8 = 0 from rfl] at As)
 (try rw [Addr.add_zero'] at As)
 (try rw [show ((0 : Int)).toNat = 0 from rfl] at At)
 (try rw [show 0 * 8 = 0 from rfl] at At)
 (try rw [Addr.add_zero'] at At)
 (try rw [show ((0 : Int)).toNat = 0 from rfl] at Au)
 (try rw [show 0 * 8 = 0 from rfl] at Au)
 (try rw [Addr.add_zero'] at Au)
 replace p748 := eq_true p748
 replace q748 := eq_true q748
 try (have Aw := q748; simp only [ByteArray.size_extract, Nat.min_self] at Aw)
 refine kA (n := 24) (S := fun w' => w'.cell? ⟨Ac, 0, none⟩ = some (.string Af) ∧ w'.cell? ⟨Ac, 1, none⟩ = some (.bool Ag) ∧ w'.cell? ⟨Ac, 2, none⟩ = some (.string Ah) ∧ w'.cell? ⟨Ac, 3, none⟩ = some (.string Ai) ∧ w'.cell? ⟨Ac, 4, none⟩ = some (.bool Aj) ∧ w'.cell? ⟨Ac, 5, none⟩ = some (.string Ak) ∧ w'.cell? ⟨Ac, 6, none⟩ = some (.bool Al) ∧ w'.cell? ⟨Ac, 7, none⟩ = some (.string Am) ∧ w'.cell? Ad = some (.string ((ag Ab 0).f0)) ∧ w'.cell? ⟨Ad.block, Ad.off + 1, none⟩ = some (.bool ((ag Ab 0).f1)) ∧ w'.cell? ⟨Ad.block, Ad.off + 2, none⟩ = some (.string ((ag Ab 0).f2)) ∧ w'.cell? ⟨Ad.block, Ad.off + 3, none⟩ = some (.string ((ag Ab 0).f3)) ∧ w'.cell? ⟨Ad.block, Ad.off + 4, none⟩ = some (.bool ((ag Ab 0).f4)) ∧ w'.cell? ⟨Ad.block, Ad.off + 5, none⟩ = some (.string ((ag Ab 0).f5)) ∧ w'.cell? ⟨Ad.block, Ad.off + 6, none⟩ = some (.bool ((ag Ab 0).f6)) ∧ w'.cell? ⟨Ad.block, Ad.off + 7, none⟩ = some (.string ((ag Ab 0).f7))) (ds := []) #[false, false, false, false, false, false, false, false, false, false, false, false, false, false, false, false, false, false, false, false, false, false, false, false] (by kernel_rfl) rfl rfl ⟨(ak Aa.out 0).trans rfl, (ak Aa.out 1).trans rfl, (ak Aa.out 2).trans rfl, (ak Aa.out 3).trans rfl, (ak Aa.out 4).trans rfl, (ak Aa.out 5).trans rfl, (ak Aa.out 6).trans rfl, (ak Aa.out 7).trans rfl, An, Ao, Ap, Aq, Ar, As, At, Au⟩ (fun hHeld => ?_)
 generalize w50.drew = w52 at Ae Aa HB An Ao Ap Aq Ar As At Au hHeld ⊢
 refine xpu 0 59 ?_
 refine xpu 1 60 ?_
 refine xpu 2 61 ?_
 refine xpu 3 62 ?_
 refine xpu 4 63 ?_
 refine xpu 5 64 ?_
 refine xpu 6 65 ?_
 refine xpu 7 66 ?_
 refine xpu 9 68 ?_
 refine xpu 10 69 ?_
 refine xtk 8 67 ?_
 refine xtk 11 70 ?_
 refine xpu 12 71 ?_
 refine xpu 13 72 ?_
 refine xpu 14 73 ?_
 refine xpu 17 76 ?_
 refine xtk 15 74 ?_
 refine jl (i := 16) (N := some 75) #[true, true, true, true, true, true, true, true, true, true, true, true, true, true, true, true, true, true, false, false, false, false, false, false] rfl rfl (iQ rfl (by kernel_rfl)) (by decide) (fun K hK => ?_)
 refine lz Tryz.func10 (by kernel_rfl) rfl #[.agg #[.string Af, .bool Ag, .string Ah, .string Ai, .bool Aj, .string Ak, .bool Al, .string Am]] (by rfl) rfl rfl (by (try simp only [List.map_toArray, List.map_cons, List.map_nil]); first | done | rfl | (simp only [List.length_drop, List.length_take]; rfl)) ?_
 (with_reducible refine (kn (w := _) (h := A42.out)).mono ?_)
 rintro e w53 ⟨rfl, hb⟩
 have HS8_ := (hb.cell (World.block_lt_of_cell? _ _ (hHeld.2.2.2.2.2.2.2.2.1))).trans (hHeld.2.2.2.2.2.2.2.2.1)
 have HS9_ := (hb.cell (World.block_lt_of_cell? _ _ (hHeld.2.2.2.2.2.2.2.2.2.1))).trans (hHeld.2.2.2.2.2.2.2.2.2.1)
 have HS10_ := (hb.cell (World.block_lt_of_cell? _ _ (hHeld.2.2.2.2.2.2.2.2.2.2.1))).trans (hHeld.2.2.2.2.2.2.2.2.2.2.1)
 have HS11_ := (hb.cell (World.block_lt_of_cell? _ _ (hHeld.2.2.2.2.2.2.2.2.2.2.2.1))).trans (hHeld.2.2.2.2.2.2.2.2.2.2.2.1)
 have HS12_ := (hb.cell (World.block_lt_of_cell? _ _ (hHeld.2.2.2.2.2.2.2.2.2.2.2.2.1))).trans (hHeld.2.2.2.2.2.2.2.2.2.2.2.2.1)
 have HS13_ := (hb.cell (World.block_lt_of_cell? _ _ (hHeld.2.2.2.2.2.2.2.2.2.2.2.2.2.1))).trans (hHeld.2.2.2.2.2.2.2.2.2.2.2.2.2.1)
 have HS14_ := (hb.cell (World.block_lt_of_cell? _ _ (hHeld.2.2.2.2.2.2.2.2.2.2.2.2.2.2.1))).trans (hHeld.2.2.2.2.2.2.2.2.2.2.2.2.2.2.1)
 have HS15_ := (hb.cell (World.block_lt_of_cell? _ _ (hHeld.2.2.2.2.2.2.2.2.2.2.2.2.2.2.2))).trans (hHeld.2.2.2.2.2.2.2.2.2.2.2.2.2.2.2)
 refine ⟨_, rfl, ?_⟩
 replace Ae := Zz.mk (Kd.R_below (xkd Ae) hb)
 replace Aa := xbb (g := Ac) (o := .cells #[.string Af, .bool Ag, .string Ah, .string Ai, .bool Aj, .string Ak, .bool Al, .string Am] 24 (0, 0)) hb
 replace HB := xst hb
 (try clear hb)
 refine hK.out _ _ ⟨(ak Aa.out 0).trans rfl, (ak Aa.out 1).trans rfl, (ak Aa.out 2).trans rfl, (ak Aa.out 3).trans rfl, (ak Aa.out 4).trans rfl, (ak Aa.out 5).trans rfl, (ak Aa.out 6).trans rfl, (ak Aa.out 7).trans rfl, HS8_, HS9_, HS10_, HS11_, HS12_, HS13_, HS14_, HS15_⟩ (fun hHeld => ?_)
 clear hK K
 refine gH (a' := ?_) ?_ ?_
 rotate_left
 {
 show Act.put _ (some 75) _ = _
 simp only [Act.put, xl1, xl2, xl3, ao, aq]
 rfl
 }
 refine xpu 18 77 ?_
 refine xpu 19 78 ?_
 refine xpu 20 79 ?_
 refine xpo 21 80 ?_
 refine xpu 22 81 ?_
 refine xpu 23 4 ?_
 refine xdn ?_
 try go_wp2
 go_ret
 exact ⟨xre, xbl⟩
 }
 have AS : (Af.toList == (((ag Ab 0).f0).toList) && (Ag == ((ag Ab 0).f1) && (Ah.toList == (((ag Ab 0).f2).toList) && (Ai.toList == (((ag Ab 0).f3).toList) && (Aj == ((ag Ab 0).f4) && (Ak.toList == (((ag Ab 0).f5).toList) && (Al == ((ag Ab 0).f6) && (Am.toList == (((ag Ab 0).f7).toList))))))))) = false := by simpa using c41
 (try (have AT : decide (Af.toList = (((ag Ab 0).f0).toList) && (Ag == ((ag Ab 0).f1) && (Ah.toList == (((ag Ab 0).f2).toList) && (Ai.toList == (((ag Ab 0).f3).toList) && (Aj == ((ag Ab 0).f4) && (Ak.toList == (((ag Ab 0).f5).toList) && (Al == ((ag Ab 0).f6) && (Am.toList == (((ag Ab 0).f7).toList))))))))) = false := by simpa using c41))
 (try (have AU : (Af.toList == (((ag Ab 0).f0).toList) && (Ag == ((ag Ab 0).f1) && (Ah.toList == (((ag Ab 0).f2).toList) && (Ai.toList == (((ag Ab 0).f3).toList) && (Aj == ((ag Ab 0).f4) && (Ak.toList == (((ag Ab 0).f5).toList) && (Al == ((ag Ab 0).f6) && (Am.toList == (((ag Ab 0).f7).toList))))))))) = false := by simpa using c41))
 (try (have Be : ¬ (Af.toList = (((ag Ab 0).f0).toList) && (Ag == ((ag Ab 0).f1) && (Ah.toList == (((ag Ab 0).f2).toList) && (Ai.toList == (((ag Ab 0).f3).toList) && (Aj == ((ag Ab 0).f4) && (Ak.toList == (((ag Ab 0).f5).toList) && (Al == ((ag Ab 0).f6) && (Am.toList == (((ag Ab 0).f7).toList))))))))) := by simpa using c41))
 clear c41
 obtain rfl := Option.some.inj H
 try go_wp2_with (first | ((with_reducible refine xgc (f := 9) rfl ?_); refine xgl 45 Tryz.func9 #[.int .i64 a0, .string a1] ?_; (with_reducible refine (cE (w := _) (h := A24.out)).mono ?_); rintro e w54 ⟨v745, rfl, ho0, hb⟩; refine ⟨_, rfl, ?_⟩; have Ae := Zz.mk (Kd.R_lower (Kd.R_newB ho0 (g := Ac) (o := .cells #[.string Af, .bool Ag, .string Ah, .string Ai, .bool Aj, .string Ak, .bool Al, .string Am] 24 (0, 0)) xbk) (ar xbl)); replace Aa := xbb (g := Ac) (o := .cells #[.string Af, .bool Ag, .string Ah, .string Ai, .bool Aj, .string Ak, .bool Al, .string Am] 24 (0, 0)) hb; replace HB := xst hb; (try clear hb); (try clear ho0); obtain ⟨Ao55, co55, eo55⟩ := Kd.R_slice Ae.out; subst eo55))
 replace Ae := Zz.mk (Kd.R_drew Ae.out)
 replace Aa := Zz.mk (bq Aa.out)
 replace HB := Zz.mk (aC HB.out)
 have p748 : 0 ≤ (0 : Int) := (by omega)
 have q748 : 0 < (Ab.length : Int) := xod
 obtain ⟨Ad, e748, An, Ao, Ap, Aq, Ar, As, At, Au⟩ := lE (Kd.R_reads' Ae.out).2.2 0 p748 q748
 cases e748
 have AC : (0 < Ab.length) = True := eq_true (by omega)
 (try rw [show ((0 : Int)).toNat = 0 from rfl] at An)
 (try rw [show 0 * 8 = 0 from rfl] at An)
 (try rw [Addr.add_zero'] at An)
 (try rw [show ((0 : Int)).toNat = 0 from rfl] at Ao)
 (try rw [show 0 * 8 = 0 from rfl] at Ao)
 (try rw [Addr.add_zero'] at Ao)
 (try rw [show ((0 : Int)).toNat = 0 from rfl] at Ap)
 (try rw [show 0 * 8 = 0 from rfl] at Ap)
 (try rw [Addr.add_zero'] at Ap)
 (try rw [show ((0 : Int)).toNat = 0 from rfl] at Aq)
 (try rw [show 0 * 8 = 0 from rfl] at Aq)
 (try rw [Addr.add_zero'] at Aq)
 (try rw [show ((0 : Int)).toNat = 0 from rfl] at Ar)
 (try rw [show 0 * 8 = 0 from rfl] at Ar)
 (try rw [Addr.add_zero'] at Ar)
 (try rw [show ((0 : Int)).toNat = 0 from rfl] at As)
 (try rw [show 0 * 8 = 0 from rfl] at As)
 (try rw [Addr.add_zero'] at As)
 (try rw [show ((0 : Int)).toNat = 0 from rfl] at At)
 (try rw [show 0 * 8 = 0 from rfl] at At)
 (try rw [Addr.add_zero'] at At)
 (try rw [show ((0 : Int)).toNat = 0 from rfl] at Au)
 (try rw [show 0 * 8 = 0 from rfl] at Au)
 (try rw [Addr.add_zero'] at Au)
 replace p748 := eq_true p748
 replace q748 := eq_true q748
 try (have Aw := q748; simp only [ByteArray.size_extract, Nat.min_self] at Aw)
 refine kA (n := 24) (S := fun w' => w'.cell? ⟨Ac, 0, none⟩ = some (.string Af) ∧ w'.cell? ⟨Ac, 1, none⟩ = some (.bool Ag) ∧ w'.cell? ⟨Ac, 2, none⟩ = some (.string Ah) ∧ w'.cell? ⟨Ac, 3, none⟩ = some (.string Ai) ∧ w'.cell? ⟨Ac, 4, none⟩ = some (.bool Aj) ∧ w'.cell? ⟨Ac, 5, none⟩ = some (.string Ak) ∧ w'.cell? ⟨Ac, 6, none⟩ = some (.bool Al) ∧ w'.cell? ⟨Ac, 7, none⟩ = some (.string Am) ∧ w'.cell? Ad = some (.string ((ag Ab 0).f0)) ∧ w'.cell? ⟨Ad.block, Ad.off + 1, none⟩ = some (.bool ((ag Ab 0).f1)) ∧ w'.cell? ⟨Ad.block, Ad.off + 2, none⟩ = some (.string ((ag Ab 0).f2)) ∧ w'.cell? ⟨Ad.block, Ad.off + 3, none⟩ = some (.string ((ag Ab 0).f3)) ∧ w'.cell? ⟨Ad.block, Ad.off + 4, none⟩ = some (.bool ((ag Ab 0).f4)) ∧ w'.cell? ⟨Ad.block, Ad.off + 5, none⟩ = some (.string ((ag Ab 0).f5)) ∧ w'.cell? ⟨Ad.block, Ad.off + 6, none⟩ = some (.bool ((ag Ab 0).f6)) ∧ w'.cell? ⟨Ad.block, Ad.off + 7, none⟩ = some (.string ((ag Ab 0).f7))) (ds := []) #[false, false, false, false, false, false, false, false, false, false, false, false, false, false, false, false, false, false, false, false, false, false, false, false] (by kernel_rfl) rfl rfl ⟨(ak Aa.out 0).trans rfl, (ak Aa.out 1).trans rfl, (ak Aa.out 2).trans rfl, (ak Aa.out 3).trans rfl, (ak Aa.out 4).trans rfl, (ak Aa.out 5).trans rfl, (ak Aa.out 6).trans rfl, (ak Aa.out 7).trans rfl, An, Ao, Ap, Aq, Ar, As, At, Au⟩ (fun hHeld => ?_)
 generalize w54.drew = w56 at Ae Aa HB An Ao Ap Aq Ar As At Au hHeld ⊢
 refine xpu 0 59 ?_
 refine xpu 1 60 ?_
 refine xpu 2 61 ?_
 refine xpu 3 62 ?_
 refine xpu 4 63 ?_
 refine xpu 5 64 ?_
 refine xpu 6 65 ?_
 refine xpu 7 66 ?_
 refine xpu 9 68 ?_
 refine xpu 10 69 ?_
 refine xtk 8 67 ?_
 refine xtk 11 70 ?_
 refine xpu 12 71 ?_
 refine xpu 13 72 ?_
 refine xpu 14 73 ?_
 refine xpo 15 74 ?_
 refine xpo 16 75 ?_
 refine xpo 17 76 ?_
 refine xpo 18 77 ?_
 refine xpu 19 78 ?_
 refine xpu 20 79 ?_
 refine xpo 21 80 ?_
 refine xpu 22 81 ?_
 refine xpu 23 4 ?_
 refine xdn ?_
 try go_wp2
 go_ret
 exact ⟨xre, xbl⟩
 }
 obtain ⟨AQ, AR⟩ := xqn c39
 obtain rfl := Option.some.inj H
 try go_wp2_with (first | ((with_reducible refine xgc (f := 9) rfl ?_); refine xgl 45 Tryz.func9 #[.int .i64 a0, .string a1] ?_; (with_reducible refine (cE (w := _) (h := A24.out)).mono ?_); rintro e w57 ⟨v745, rfl, ho0, hb⟩; refine ⟨_, rfl, ?_⟩; have Ae := Zz.mk (Kd.R_lower (Kd.R_newB ho0 (g := Ac) (o := .cells #[.string Af, .bool Ag, .string Ah, .string Ai, .bool Aj, .string Ak, .bool Al, .string Am] 24 (0, 0)) xbk) (ar xbl)); replace Aa := xbb (g := Ac) (o := .cells #[.string Af, .bool Ag, .string Ah, .string Ai, .bool Aj, .string Ak, .bool Al, .string Am] 24 (0, 0)) hb; replace HB := xst hb; (try clear hb); (try clear ho0); obtain ⟨Ao58, co58, eo58⟩ := Kd.R_slice Ae.out; subst eo58))
 replace Ae := Zz.mk (Kd.R_drew Ae.out)
 replace Aa := Zz.mk (bq Aa.out)
 replace HB := Zz.mk (aC HB.out)
 refine xsr 24 (S := fun _ => True) [] trivial (fun hHeld => ?_)
 generalize w57.drew = w59 at Ae Aa HB hHeld ⊢
 refine xpu 0 59 ?_
 refine xpu 1 60 ?_
 refine xpu 2 61 ?_
 refine xpu 3 62 ?_
 refine xpu 4 63 ?_
 refine xpu 5 64 ?_
 refine xpu 6 65 ?_
 refine xpu 7 66 ?_
 refine xpo 8 67 ?_
 refine xpo 9 68 ?_
 refine xpo 10 69 ?_
 refine xpo 11 70 ?_
 refine xpo 12 71 ?_
 refine xpu 13 72 ?_
 refine xpu 14 73 ?_
 refine xpo 15 74 ?_
 refine xpo 16 75 ?_
 refine xpo 17 76 ?_
 refine xpo 18 77 ?_
 refine xpu 19 78 ?_
 refine xpu 20 79 ?_
 refine xpo 21 80 ?_
 refine xpu 22 81 ?_
 refine xpu 23 4 ?_
 refine xdn ?_
 try go_wp2
 go_ret
 exact ⟨xre, xbl⟩
 }
 obtain ⟨AO, AP⟩ := xqn c38
 obtain rfl := Option.some.inj H
 try go_wp2_with (first | ((with_reducible refine xgc (f := 9) rfl ?_); refine xgl 45 Tryz.func9 #[.int .i64 a0, .string a1] ?_; (with_reducible refine (cE (w := _) (h := A24.out)).mono ?_); rintro e w60 ⟨v745, rfl, ho0, hb⟩; refine ⟨_, rfl, ?_⟩; have Ae := Zz.mk (Kd.R_lower (Kd.R_newB ho0 (g := Ac) (o := .cells #[.string Af, .bool Ag, .string Ah, .string Ai, .bool Aj, .string Ak, .bool Al, .string Am] 24 (0, 0)) xbk) (ar xbl)); replace Aa := xbb (g := Ac) (o := .cells #[.string Af, .bool Ag, .string Ah, .string Ai, .bool Aj, .string Ak, .bool Al, .string Am] 24 (0, 0)) hb; replace HB := xst hb; (try clear hb); (try clear ho0); obtain ⟨Ao61, co61, eo61⟩ := Kd.R_slice Ae.out; subst eo61))
 replace Ae := Zz.mk (Kd.R_drew Ae.out)
 replace Aa := Zz.mk (bq Aa.out)
 replace HB := Zz.mk (aC HB.out)
 refine xsr 24 (S := fun _ => True) [] trivial (fun hHeld => ?_)
 generalize w60.drew = w62 at Ae Aa HB hHeld ⊢
 refine xpu 0 59 ?_
 refine xpu 1 60 ?_
 refine xpu 2 61 ?_
 refine xpu 3 62 ?_
 refine xpo 4 63 ?_
 refine xpo 5 64 ?_
 refine xpu 6 65 ?_
 refine xpu 7 66 ?_
 refine xpo 8 67 ?_
 refine xpo 9 68 ?_
 refine xpo 10 69 ?_
 refine xpo 11 70 ?_
 refine xpo 12 71 ?_
 refine xpu 13 72 ?_
 refine xpu 14 73 ?_
 refine xpo 15 74 ?_
 refine xpo 16 75 ?_
 refine xpo 17 76 ?_
 refine xpo 18 77 ?_
 refine xpu 19 78 ?_
 refine xpu 20 79 ?_
 refine xpo 21 80 ?_
 refine xpu 22 81 ?_
 refine xpu 23 4 ?_
 refine xdn ?_
 try go_wp2
 go_ret
 exact ⟨xre, xbl⟩
 )
 )
 )
 )
 
 
def lL : Prop := ∀ (a0 : Int) (a1 : ByteArray), (Lit.int .i64 a0).wf = true → a1.size ≤ 140737488351232 → ∃ k, fX k a0 a1 = some true
end Go.Proofs.YtpmflpeckoeooaaGreatDoor.X
