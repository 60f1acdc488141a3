/- Texts that the law's proof needs, joined by a program of this session. -/
import Derived.Test.YtmofhijbheimmaaDoorZSegsParts1
import Derived.Test.YtmofhijbheimmaaDoorZSegsParts2
import Derived.Test.YtmofhijbheimmaaDoorZSegsParts3
set_option maxHeartbeats 8000000
set_option maxRecDepth 100000
set_option linter.unusedSimpArgs false
set_option linter.unusedVariables false
namespace Go.Proofs.YtmofhijbheimmaaDoor.X
open Go.RowKit Go.Proofs.YtmofhijbheimmaaDoorW.PrintWords Go.Proofs.YtmofhijbheimmaaDoorW.PrintLast Go.Proofs.YtmofhijbheimmaaDoorW.PrintMore
attribute [local go_sem] cJ cx dT eS fs er eT ef eh eJ eK dK dL eg ei
mutual
def bj : Nat → ByteArray → Bool → Option (Bool × List ByteArray × Int)
  | 0, _, _ => none
  | k + 1, x0, x140000 => (dz x0 (⟨#[47]⟩ : ByteArray)).bind fun t140 => (a6 k t140 (t140.length : Int) 0 x140000 ([] : List ByteArray))
def a6 : Nat → List ByteArray → Int → Int → Bool → List ByteArray → Option (Bool × List ByteArray × Int)
  | 0, _, _, _, _, _ => none
  | k + 1, Ae, Af, Ac, Ab, Aa => if Ac < Af then (if 0 ≤ Ac then (if Ac < (Ae.length : Int) then ((ce k (aQ ByteArray.empty Ae Ac)).bind fun Ad => (if Aa.length < 8796093022208 then (a6 k Ae Af (wrap64 (Ac + 1)) Ab (Aa ++ [Ad.1])) else (none))) else (none)) else (none)) else (some (Ab, Aa, 0))
end
def bQ (k : Nat) (a0 : ByteArray) : Option (Bool × List ByteArray × Int) := (cz k 5 true a0).bind fun t138 => (if t138 = true then (if a0.toList = ([] : List UInt8) then (some (false, ([] : List ByteArray), 0)) else (if 0 < (a0.size : Int) then (if (bt a0 0) = 47 then (if 1 ≤ (a0.size : Int) then (bj k (a0.extract 1 a0.size) true) else (none)) else (bj k a0 false)) else (none))) else (some (false, ([] : List ByteArray), 4)))
theorem d5 : ∀ k, (∀ y0 y1, LeO (bj k y0 y1) (bj (k + 1) y0 y1)) ∧ (∀ y0 y1 y2 y3 y4, LeO (a6 k y0 y1 y2 y3 y4) (a6 (k + 1) y0 y1 y2 y3 y4))
  | 0 => ⟨fun _ _ r h => by simp [bj] at h, fun _ _ _ _ _ r h => by simp [a6] at h⟩
  | k + 1 => by
    obtain ⟨ih0, ih1⟩ := d5 k
    have m0 := @dJ; have m1 := @eH
    refine ⟨?_, ?_⟩
    · intro y0 y1
      unfold bj
      exact xmo
    · intro y0 y1 y2 y3 y4
      unfold a6
      exact xmo
theorem fW : ∀ a0 k, LeO (bQ k a0) (bQ (k + 1) a0) := by
  intro a0 k
  obtain ⟨ih0, ih1⟩ := d5 k
  have m0 := @dJ; have m1 := @eH
  unfold bQ
  exact xmo
theorem bJ (k : Nat) (a0 : ByteArray) (r1 : Bool) (r2 : List ByteArray) (r3 : Int) (w : World) (hG : GW w) (h : bQ k a0 = some (r1, r2, r3)) :
    Calls Tryd.prog 8 #[.string a0] w fun e w' => ∃ v1_ : Value, e = .returned (.tuple #[.agg #[.bool r1, v1_], .int .i64 r3]) ∧ Kd.R Kd.string 9 w' w.heap.size (fun _ => True) v1_ r2 ∧ Below w.heap.size w w' := by
 have hu25 := Tryd.underlying25
 have HB := Zz.mk (Below.refl w.heap.size w)
 have H := h
 clear h
 unfold bQ at H
 replace H := xbd H
 obtain ⟨AW, A2, H⟩ := H
 try dsimp only at H
 refine xib H ?_ ?_ <;> clear H <;> rintro rfl H
 {
 refine xid H ?_ ?_ <;> clear H <;> intro c4 H
 {
 obtain ⟨Ax, Ay⟩ := xqe c4
 (try (have AL : a0.toList.isEmpty = true := by simpa using c4))
 clear c4
 simp only [Option.some.injEq, Prod.mk.injEq] at H
 obtain ⟨rfl, rfl, rfl⟩ := H
 go_enter Tryd.func8, Tryd.ntmps8
 go_wp2_with (first | ((with_reducible refine ab (N := 2) rfl ?_); refine xew 2 ?_; intro Ab w5 Ac As hb hg; replace HB := xst hb; clear hb hg) | ((with_reducible refine xgc (f := 25) rfl ?_); refine xca 10 Tryd.func25 (dm (w := _) (h := A2.out)) ?_; rintro w6 hb; replace Ac := xbq Ab hb; replace HB := xst hb; (try clear hb)) | ((with_reducible refine ab (N := 4) rfl ?_); refine xew 4 ?_; intro Ai w7 Ae Az hb hg; have Ag := xlt (g := Ab) hg; have Ah := xgt (g := Ab) hg; replace Ac := xbq Ab hb; replace HB := xst hb; clear hb hg; have AX := Ah.out; have AY := Ag.out; have A7 := xz2 Ae.out; have AZ := xz2 Ac.out))
 refine bodyPost_ret (dy rfl _ _ Ab 25 #[.bool false, .slice none 0 0] (0, 0) _ rfl xbk Tryd.underlying25 rfl (by kernel_rfl)) rfl ?_
 exact ⟨_, by first | rfl | (simp [bO, bP] <;> first | rfl | (simp only [cM, bne, Bool.not_not]; done)) | (simp [*, bO, bP] <;> rfl), by first | exact Kd.R_nil _ _ _ _ _ | exact Kd.N_nil _ _ _ _ _ | exact Kd.V_nil _ _ _ _ _ | exact Kd.Q_nil _ _ _ _ _ | exact Kd.S_nil _ _ _ _ _, xbl⟩
 }
 obtain ⟨Ax, Ay⟩ := xqn c4
 (try (have AL : a0.toList.isEmpty = false := by simpa using c4))
 refine xin H ?_; clear H; intro c11 H
 have AA := xdt c11
 have AB : decide (0 < a0.size) = true := decide_eq_true (by omega)
 clear c11
 have Av := Zz.mk H
 clear H
 go_enter Tryd.func8, Tryd.ntmps8
 go_upto_if 18 with (first | ((with_reducible refine ab (N := 2) rfl ?_); refine xew 2 ?_; intro Ab w14 Ac As hb hg; replace HB := xst hb; clear hb hg) | ((with_reducible refine xgc (f := 25) rfl ?_); refine xca 10 Tryd.func25 (dm (w := _) (h := A2.out)) ?_; rintro w15 hb; replace Ac := xbq Ab hb; replace HB := xst hb; (try clear hb)) | ((with_reducible refine ab (N := 4) rfl ?_); refine xew 4 ?_; intro Ai w16 Ae Az hb hg; have Ag := xlt (g := Ab) hg; have Ah := xgt (g := Ab) hg; replace Ac := xbq Ab hb; replace HB := xst hb; clear hb hg; obtain ⟨q12, AC, hx12⟩ := xi0 a0 xod))
 (try simp only [Act.put, xl1, xl2, xl3])
 go_cut [0] (fun v0 wc => ∃ kq Ao Aa, v0 = .string Ao ∧ Zz (bj kq Ao Aa = some (r1, r2, r3)) ∧ Zz (kq ≤ k) ∧ Zz (wc.heap[Ab]? = some (.cells #[.bool false, (.slice none 0 0)] 25 (0, 0))) ∧ Zz (wc.heap[Ai]? = some (.cells #[.bool Aa, (.slice none 0 0)] 25 (0, 0))) ∧ Zz (Below w.heap.size w wc))
 case first => (
 have H := Av.out
 clear Av
 refine xid H ?_ ?_ <;> clear H <;> intro c17 H
 {
 obtain ⟨Am, Ap⟩ := xqe c17
 clear c17
 (first | rw [Am] | (simp only [am, az]; rw [Am]) | (rw [AD]; (try simp only [Bool.not_false, Bool.not_true])) | (rw [AE]; (try simp only [Bool.not_false, Bool.not_true])) | rw [Ap] | skip)
 refine xin H ?_; clear H; intro c18 H
 obtain ⟨AN, AO⟩ := xcp c18
 clear c18
 obtain ⟨AM, Aq⟩ : ∃ j_ : ByteArray, (a0.extract 1 a0.size) = j_ := ⟨_, rfl⟩
 first | rw [Aq] at H | simp only [Aq] at H | skip
 replace H := xa H
 try go_wp2
 replace Ac := Zz.mk (bT Ac.out)
 replace Ae := Zz.mk (bT Ae.out)
 replace HB := Zz.mk (bM HB.out)
 refine gz (n := 5) (S := fun w' => True) (ds := []) #[false, false, false, false, false] (by kernel_rfl) rfl rfl trivial (fun hHeld => ?_)
 generalize w16.drew = w20 at Ac Ae HB hHeld ⊢
 refine fU (i := 0) (N := some 19) (v := ?_) (a' := ?_) #[true, false, false, false, false] rfl rfl (by kernel_rfl) (fun _ _ _ h => h) (Or.inl ⟨by rfl, ?_⟩) ?_ ?_
 rotate_left
 {
 intro w'
 go_simp
 with_reducible rfl
 }
 rotate_left
 {
 simp only [Act.put, xl1, xl2, xl3, am, az]
 rfl
 }
 refine fU (i := 1) (N := some 20) (v := ?_) (a' := ?_) #[true, true, false, false, false] rfl rfl (by kernel_rfl) (fun _ _ _ h => h) (Or.inl ⟨by rfl, ?_⟩) ?_ ?_
 rotate_left
 {
 intro w'
 go_simp
 with_reducible rfl
 }
 rotate_left
 {
 simp only [Act.put, xl1, xl2, xl3, am, az]
 rfl
 }
 refine fU (i := 2) (N := some 21) (v := ?_) (a' := ?_) #[true, true, true, false, false] rfl rfl (by kernel_rfl) (fun _ _ _ h => h) (Or.inl ⟨by rfl, ?_⟩) ?_ ?_
 rotate_left
 {
 intro w'
 go_simp
 with_reducible rfl
 }
 rotate_left
 {
 simp only [Act.put, xl1, xl2, xl3, am, az]
 rfl
 }
 refine fI (i := 3) (N := none) #[true, true, true, true, false] rfl rfl (by kernel_rfl) (by decide) (fun K hK => ?_)
 have hs21 : w20.cell? ⟨Ai, 0, none⟩ = some (.bool false) := (an Ae.out 0).trans rfl
 have AP := xf Ae 0
 have AJ := Ag.out
 have hms21_0 := Ah.out
 refine i7 (w1 := ?_) (by rfl) rfl ?_ ?_
 rotate_left
 {
 go_simp
 rfl
 }
 refine hK.out _ _ trivial (fun hHeld => ?_)
 clear hK K
 refine fU (i := 4) (N := some 0) (v := ?_) (a' := ?_) #[true, true, true, true, true] rfl rfl (by kernel_rfl) (fun _ _ _ h => h) (Or.inl ⟨by rfl, ?_⟩) ?_ ?_
 rotate_left
 {
 intro w'
 go_simp
 with_reducible rfl
 }
 rotate_left
 {
 simp only [Act.put, xl1, xl2, xl3, am, az]
 rfl
 }
 refine i3 (by kernel_rfl) ?_
 try go_wp2
 go_meet
 case rel => exact ⟨_, (AM), (true), (by first | rfl | (simp; done) | (simp only [← Aq] <;> (first | rfl | (rw [Int.tdiv_eq_ediv_of_nonneg (by unfold mx; split <;> omega)]; done) | simp)) | (simp [*]; done) | (simp [wrap64]; done)), H, ⟨xom⟩, ⟨xbK⟩, ⟨xbK⟩, ⟨xbl⟩⟩
 }
 obtain ⟨Am, Ap⟩ := xqn c17
 (first | rw [Am] | (simp only [am, az]; rw [Am]) | (rw [AD]; (try simp only [Bool.not_false, Bool.not_true])) | (rw [AE]; (try simp only [Bool.not_false, Bool.not_true])) | rw [Ap] | skip)
 replace H := xa H
 go_wp2
 go_meet
 case rel => exact ⟨_, (a0), (false), xrr, H, ⟨xom⟩, ⟨xbk⟩, ⟨xbk⟩, ⟨xbl⟩⟩
 )
 case rest => (
 clear Av
 clear Ax Ay AA AB
 try clear p12
 try clear q12
 try clear hx12
 try clear AC
 obtain ⟨kq, Ao, Aa, rfl, HA, HJ12, Ac, Ae, HB⟩ := hcut
 cases kq with
 | zero => exact absurd HA.out (by simp [bj])
 | succ kj12 => (
 have H := HA.out
 clear HA
 simp only [bj] at H
 replace H := xbd H
 obtain ⟨Al, A22, H⟩ := H
 try dsimp only at H
 have H' := Zz.mk H
 clear H
 go_wp2_with (first | ((with_reducible refine xgc (f := 26) rfl ?_); refine xgl 23 Tryd.func26 #[.string Ao, .string (⟨#[47]⟩ : ByteArray)] ?_; (with_reducible refine (fi (w := _) (hG := xG) (h := A22.out)).mono ?_); rintro e w23 ⟨v141, rfl, ho0, hb⟩; refine ⟨_, rfl, ?_⟩; have At := Zz.mk (Kd.R_lower ho0 (aA xbl)); replace Ac := xbb (g := Ab) (o := .cells #[.bool false, .slice none 0 0] 25 (0, 0)) hb; replace Ae := xbb (g := Ai) (o := .cells #[.bool Aa, .slice none 0 0] 25 (0, 0)) hb; replace HB := xst hb; (try clear hb); (try clear ho0); obtain ⟨Ao24, co24, eo24⟩ := Kd.R_slice At.out; subst eo24))
 go_loopg [25] kj12 (fun kq v25 w' => ∃ (Aj : Int) (Af : List ByteArray) (u140001 : Value), v25 = .int .i64 Aj ∧ Zz (a6 kq Al (Al.length : Int) Aj Aa Af = some (r1, r2, r3)) ∧ Zz (kq ≤ kj12) ∧ Zz (Kd.R Kd.string 9 w' w.heap.size (fun k_ => some k_ ≠ (u140001 : Value).ownBlock) (.slice Ao24 Al.length co24) Al) ∧ Zz (Kd.R Kd.string 9 w' w.heap.size (fun k_ => some k_ ≠ ((.slice Ao24 Al.length co24) : Value).ownBlock) u140001 Af) ∧ Zz (w'.heap[Ab]? = some (.cells #[.bool false, (.slice none 0 0)] 25 (0, 0))) ∧ Zz (w'.heap[Ai]? = some (.cells #[.bool Aa, u140001] 25 (0, 0))) ∧ Zz (Below w.heap.size w w'))
 case atStart => exact ⟨(0), (([] : List ByteArray)), (.slice none 0 0), xrr, H', ⟨Nat.le_refl _⟩, ⟨by (with_reducible repeat (first | apply Kd.R_alloc | apply Kd.R_drewN | apply Kd.R_drew)); exact Kd.R_mono At.out (fun _ hk => (by simp [Value.ownBlock]))⟩, ⟨by first | exact Kd.R_nil _ _ _ _ _ | exact Kd.N_nil _ _ _ _ _ | exact Kd.V_nil _ _ _ _ _ | exact Kd.Q_nil _ _ _ _ _ | exact Kd.S_nil _ _ _ _ _⟩, ⟨xbk⟩, ⟨xbk⟩, ⟨xbl⟩⟩
 case round => (
 clear H'
 try clear p12
 try clear q12
 try clear hx12
 try clear AC
 obtain ⟨Aj, Af, u140001, rfl, HA, HK2, Ak, Ad, Ac, Ae, HB⟩ := hrel
 cases gk with
 | zero => exact absurd HA.out (by simp [a6])
 | succ k2 => (
 have H := HA.out
 clear HA
 simp only [a6] at H
 refine xid H ?_ ?_ <;> clear H <;> intro c25 H
 {
 have AF := xdt c25
 clear c25
 refine xin H ?_; clear H; intro c26 H
 have AQ := xdt c26
 clear c26
 refine xin H ?_; clear H; intro c27 H
 have AR := xdt c27
 clear c27
 replace H := xbd H
 obtain ⟨⟨Aw, A0⟩, A28, H⟩ := H
 try dsimp only at H
 refine xin H ?_; clear H; intro c29 H
 have LMc29 := Zz.mk c29
 clear c29
 obtain ⟨Ar, An⟩ : ∃ y_ : List ByteArray, y_ = (Af ++ [Aw]) := ⟨_, rfl⟩
 replace H : (a6 k2 Al (Al.length : Int) (wrap64 (Aj + 1)) Aa Ar) = some (r1, r2, r3) := by first | (rw [An]; with_reducible exact H) | (have H2_ := (Option.bind_some _ _).symm.trans H; rw [An]; with_reducible exact H2_) | (have H2_ := (Option.bind_some _ _).symm.trans H; with_reducible exact H2_) | with_reducible exact H | (rw [An]; exact H) | exact H
 have AG := Zz.mk An
 clear An
 replace H := xa H
 have p143 : 0 ≤ (Aj : Int) := xod
 have q143 : Aj < (Al.length : Int) := xod
 obtain ⟨AH, e143, AK⟩ := Kd.at_string (Kd.R_reads' Ak.out).2.2 Aj p143 q143
 cases e143
 replace p143 := eq_true p143
 replace q143 := eq_true q143
 try (have AI := q143; simp only [ByteArray.size_extract, Nat.min_self] at AI)
 go_wp2_with (first | ((with_reducible refine xgc (f := 27) rfl ?_); refine xca 31 Tryd.func27 (fb (w := _) (h := A28.out)) ?_; rintro w30 hb; replace Ak := Zz.mk (Kd.R_below (xkd Ak) hb); replace Ad := Zz.mk (Kd.R_below (xkd Ad) hb); replace Ac := xbq Ab hb; replace Ae := xbb (g := Ai) (o := .cells #[.bool Aa, u140001] 25 (0, 0)) hb; replace HB := xst hb; (try clear hb); have AS := Ah.out; have AT := Ag.out; have A1 := xz2 Ae.out) | ((with_reducible refine cH (b := .append) (xs := #[.tmp 35, .tmp 37]) rfl ?_); at_builtin; refine Kd.R_append Kd.string (w0 := w) w.heap.size rfl (.tmp 35) (.tmp 37) 23 9 (.string ⟨#[]⟩) 16 rfl Tryd.underlying23 eY rfl (by decide) (by omega) u140001 Af Aw [.string Aw] (fun k_ => some k_ ≠ (.slice (some AH) Al.length co24 : Value).ownBlock) (fun _ => False) rfl rfl ?aP (fun _ hk => hk.elim) ?aF ?aO ?aB ?aS ?aL ?_; (case aP => exact rfl); (case aB => exact xbl); (case aF => exact (fun k_ hk => Kd.fresh' (Kd.R_lt (xkd Ak)) k_ hk)); (case aO => exact (xkd Ad)); (case aS => exact (aA xbl)); (case aL => have := LMc29.out; first | omega | exact Nat.le_of_lt this); intro v147 w33 ho hb hg hat; rw [← AG.out] at ho; have n0_ := Zz.mk (Kd.R_after (ok := (fun _ => True)) (by (with_reducible repeat (first | apply Kd.R_alloc | apply Kd.R_drewN | apply Kd.R_drew)); exact Kd.R_mono Ak.out (fun _ hk => ⟨trivial, hk⟩)) hg hat); have n1_ := Zz.mk (fj (g := Ab) (o := .cells #[.bool false, .slice none 0 0] 25 (0, 0)) xbk hg (Kd.R_ne Ad.out Ac.out (by decide))); have n2_ := Zz.mk (fj (g := Ai) (o := .cells #[.bool Aa, u140001] 25 (0, 0)) xbk hg (Kd.R_ne Ad.out Ae.out (by decide))); have n3_ := Zz.mk (hb); have n4_ := Zz.mk (ho); clear Ak; clear Ac; clear Ae; clear HB; clear Ad; have Ak := n0_; have Ac := n1_; have Ae := n2_; have HB := n3_; have Au := n4_; clear n0_ n1_ n2_ n3_ n4_; clear ho hb hg hat; obtain ⟨Ao34, co34, eo34⟩ := Kd.R_slice Au.out; subst eo34; have A3 := xz2 Ae.out))
 go_roundg k2
 case measure => have := HJ12.out; have := HK2.out; omega
 case rel => exact ⟨(wrap64 (Aj + 1)), (Ar), (.slice Ao34 Ar.length co34), xrr, H, ⟨by have := HJ12.out; have := HK2.out; omega⟩, ⟨by (with_reducible repeat (first | apply Kd.R_alloc | apply Kd.R_drewN | apply Kd.R_drew)); exact Kd.R_mono (Kd.R_far (p := ⟨Ai, 1, none⟩) (Kd.R_types Ak.out Ae.out (by decide)) (fun _ hk => hk.2) (.slice Ao34 Ar.length co34)) (fun _ hk => hk.1.2)⟩, ⟨by (with_reducible repeat (first | apply Kd.R_alloc | apply Kd.R_drewN | apply Kd.R_drew)); exact Kd.R_mono (Kd.R_far (p := ⟨Ai, 1, none⟩) (Kd.R_types Au.out Ae.out (by decide)) (fun _ hk => hk.2) (.slice Ao34 Ar.length co34)) (fun _ hk => hk.1)⟩, ⟨xbK⟩, ⟨xbK⟩, ⟨xbl⟩⟩
 }
 have AF := xdf c25
 clear c25
 simp only [Option.some.injEq, Prod.mk.injEq] at H
 obtain ⟨rfl, rfl, rfl⟩ := H
 have AU := Ah.out
 have AV := Ag.out
 have A4 := xz2 Ae.out
 have A5 := xz2 Ac.out
 obtain ⟨Ao39, co39, eo39⟩ := Kd.R_slice Ad.out
 subst eo39
 go_wp2
 refine bodyPost_ret (dy rfl _ _ Ab 25 #[.bool Aa, .slice Ao39 Af.length co39] (0, 0) _ rfl xbk Tryd.underlying25 rfl (by kernel_rfl)) rfl ?_
 exact ⟨_, by first | rfl | (simp [bO, bP] <;> first | rfl | (simp only [cM, bne, Bool.not_not]; done)) | (simp [*, bO, bP] <;> rfl), by (with_reducible repeat (first | apply Kd.R_alloc | apply Kd.R_drewN | apply Kd.R_drew)); exact Kd.R_mono (Kd.R_far (p := ⟨Ab, 1, none⟩) (Kd.R_far (p := ⟨Ab, 0, none⟩) (Kd.R_types Ad.out Ac.out (by decide)) (fun _ hk => hk.2) (.bool Aa)) (fun _ hk => hk.2) (.slice Ao39 Af.length co39)) (fun _ hk => trivial), xbl⟩
 )
 )
 )
 )
 }
 simp only [Option.some.injEq, Prod.mk.injEq] at H
 obtain ⟨rfl, rfl, rfl⟩ := H
 go_enter Tryd.func8, Tryd.ntmps8
 go_wp2_with (first | ((with_reducible refine ab (N := 2) rfl ?_); refine xew 2 ?_; intro Ab w40 Ac As hb hg; replace HB := xst hb; clear hb hg) | ((with_reducible refine xgc (f := 25) rfl ?_); refine xca 10 Tryd.func25 (dm (w := _) (h := A2.out)) ?_; rintro w41 hb; replace Ac := xbq Ab hb; replace HB := xst hb; (try clear hb); have A6 := xz2 Ac.out))
 refine bodyPost_ret (dy rfl _ _ Ab 25 #[.bool false, .slice none 0 0] (0, 0) _ rfl xbk Tryd.underlying25 rfl (by kernel_rfl)) rfl ?_
 exact ⟨_, by first | rfl | (simp [bO, bP] <;> first | rfl | (simp only [cM, bne, Bool.not_not]; done)) | (simp [*, bO, bP] <;> rfl), by first | exact Kd.R_nil _ _ _ _ _ | exact Kd.N_nil _ _ _ _ _ | exact Kd.V_nil _ _ _ _ _ | exact Kd.Q_nil _ _ _ _ _ | exact Kd.S_nil _ _ _ _ _, xbl⟩
def aW : Nat → Int → Bool → Option (Int × Bool)
  | 0, _, _ => none
  | k + 1, x0, x4 => if x4 = true then (some (0, false)) else (if x0 < 10 then (some ((wrap64 (48 + x0)) % 256, true)) else (some ((wrap64 ((wrap64 (65 + x0)) - 10)) % 256, true)))
def bH (k : Nat) (a0 : Int) : Option (Int × Bool) := if a0 < 0 then (aW k a0 true) else (aW k a0 (decide (a0 > 15)))
theorem dE : ∀ k, (∀ y0 y1, LeO (aW k y0 y1) (aW (k + 1) y0 y1))
  | 0 => fun _ _ r h => by simp [aW] at h
  | k + 1 => by
    have ih0 := dE k
    · intro y0 y1
      unfold aW
      exact xmo
theorem fx : ∀ a0 k, LeO (bH k a0) (bH (k + 1) a0) := by
  intro a0 k
  have ih0 := dE k
  unfold bH
  exact xmo
theorem dO (k : Nat) (a0 : Int) (r1 : Int) (r2 : Bool) (w : World) (h : bH k a0 = some (r1, r2)) :
    Calls Tryd.prog 72 #[.int .i64 a0] w fun e w' => e = .returned (.tuple #[.int .u8 r1, .bool r2]) ∧ Drawn0 w w' := by
 have H := h
 clear h
 unfold bH at H
 have Ac := Zz.mk H
 clear H
 go_enter Tryd.func72, Tryd.ntmps72
 go_upto_region 1 with (fail)
 go_cut [4] (fun v4 wc => ∃ kq Ab, v4 = .bool Ab ∧ Zz (aW kq a0 Ab = some (r1, r2)) ∧ Zz (kq ≤ k) ∧ Drawn0 w wc)
 case first => (
 have H := Ac.out
 clear Ac
 refine xid H ?_ ?_ <;> clear H <;> intro c3 H
 {
 have Aa := xdt c3
 clear c3
 (first | rw [Aa] | (simp only [am, az]; rw [Aa]) | (rw [Ad]; (try simp only [Bool.not_false, Bool.not_true])) | (rw [Ae]; (try simp only [Bool.not_false, Bool.not_true])) | rw [Af] | skip)
 replace H := xa H
 go_wp2
 go_meet
 case rel => exact ⟨_, (true), xrr, H, ⟨xom⟩, xdr⟩
 }
 have Aa := xdf c3
 clear c3
 (first | rw [Aa] | (simp only [am, az]; rw [Aa]) | (rw [Ad]; (try simp only [Bool.not_false, Bool.not_true])) | (rw [Ae]; (try simp only [Bool.not_false, Bool.not_true])) | rw [Af] | skip)
 replace H := xa H
 go_wp2
 go_meet
 case rel => exact ⟨_, (decide (a0 > 15)), xrr, H, ⟨xom⟩, xdr⟩
 )
 case rest => (
 clear Ac
 obtain ⟨kq, Ab, rfl, HA, HJ1, ⟨mc1, rfl⟩⟩ := hcut
 cases kq with
 | zero => exact absurd HA.out (by simp [aW])
 | succ kj1 => (
 have H := HA.out
 clear HA
 simp only [aW] at H
 refine xib H ?_ ?_ <;> clear H <;> rintro rfl H
 {
 simp only [Option.some.injEq, Prod.mk.injEq] at H
 obtain ⟨rfl, rfl⟩ := H
 go_wp2
 go_ret2
 exact ⟨xrr, xdr⟩
 }
 refine xid H ?_ ?_ <;> clear H <;> intro c5 H
 {
 have Ag := xdt c5
 clear c5
 simp only [Option.some.injEq, Prod.mk.injEq] at H
 obtain ⟨rfl, rfl⟩ := H
 go_wp2
 go_ret2
 exact ⟨xrr, xdr⟩
 }
 have Ag := xdf c5
 clear c5
 simp only [Option.some.injEq, Prod.mk.injEq] at H
 obtain ⟨rfl, rfl⟩ := H
 go_wp2
 go_ret2
 exact ⟨xrr, xdr⟩
 )
 )
def cy (k : Nat) (a0 : Int) : Option (ByteArray) := (bH k (wrap64 (a0 / 16))).bind fun bt149 => ((bH k (wrap64 (Go.bits .and .u8 a0 15))).bind fun bt151 => (some (strOfNums (([37, bt149.1, bt151.1] : List Int)))))
theorem eG : ∀ a0 k, LeO (cy k a0) (cy (k + 1) a0) := by
  intro a0 k
  have m0 := @fx
  unfold cy
  exact xmo
theorem fO (k : Nat) (a0 : Int) (r : ByteArray) (w : World) (h : cy k a0 = some r) :
    Calls Tryd.prog 48 #[.int .u8 a0] w fun e w' => e = .returned (.string r) ∧ Below w.heap.size w w' := by
 have HB := Zz.mk (Below.refl w.heap.size w)
 have H := h
 clear h
 unfold cy at H
 replace H := xbd H
 obtain ⟨⟨Ab, Ag⟩, A2, H⟩ := H
 try dsimp only at H
 replace H := xbd H
 obtain ⟨⟨Ac, Ah⟩, A3, H⟩ := H
 try dsimp only at H
 obtain ⟨Af, Aa⟩ : ∃ y_ : List Int, y_ = (([37, Ab, Ac] : List Int)) := ⟨_, rfl⟩
 replace H : (some (strOfNums Af)) = some r := by first | (rw [Aa]; with_reducible exact H) | (have H2_ := (Option.bind_some _ _).symm.trans H; rw [Aa]; with_reducible exact H2_) | (have H2_ := (Option.bind_some _ _).symm.trans H; with_reducible exact H2_) | with_reducible exact H | (rw [Aa]; exact H) | exact H
 have Ad := Zz.mk Aa
 clear Aa
 obtain rfl := Option.some.inj H
 go_enter Tryd.func48, Tryd.ntmps48
 go_wp2_with (first | ((with_reducible refine xgc (f := 72) rfl ?_); refine xca 11 Tryd.func72 (dO (w := _) (h := A2.out)) ?_; rintro w' ⟨nd, rfl⟩) | ((with_reducible refine xgc (f := 72) rfl ?_); refine xca 18 Tryd.func72 (dO (w := _) (h := A3.out)) ?_; rintro w' ⟨nd, rfl⟩) | ((with_reducible refine ab (N := 23) rfl ?_); refine Kd.R_lit (Kd.int .u8) _ 5 ?hg (N := 23) ?hd (xs := ([37, Ab, Ac] : List Int)) (inner := [.int .u8 37, .int .u8 Ab, .int .u8 Ac]) (ok := fun _ => True) (okp := fun _ => True) ?hr ?hp (fun _ hk => hk) trivial (Below.refl _ _) (Nat.le_refl _) (by simp) ?_; (case hd => rfl); (case hg => rfl); (case hr => first | (go_simp; done) | (go_simp; rfl)); (case hp => exact (Reps.one (show Kd.M (Kd.int .u8) _ _ _ 37 [.int .u8 37] from rfl) (Reps.one (show Kd.M (Kd.int .u8) _ _ _ Ab [.int .u8 Ab] from rfl) (Reps.one (show Kd.M (Kd.int .u8) _ _ _ Ac [.int .u8 Ac] from rfl) (Reps.none _ _))))); intro v154 w4 ho5 hb hg_ hnew_; clear hg_ hnew_; (first | rw [← Ad.out] at ho5 | (simp only [Int.reduceToNat] at ho5; rw [← Ad.out] at ho5)); have Ae := Zz.mk (Kd.R_lower ho5 (aA xbl)); replace HB := xst hb; clear hb ho5; have hcv6 := dx (P := Tryd.prog) Tryd.underlying60 Tryd.underlying5 Tryd.underlying9 (Kd.own_of_R Ae.out)))
 go_ret
 exact ⟨xre, xbl⟩
def ax : Nat → ByteArray → List Int → Int → Int → Option (ByteArray)
  | 0, _, _, _, _ => none
  | k + 1, x0, x3, x7, x8 => if x8 < x7 then (if 0 ≤ x8 then (if x8 < (x0.size : Int) then ((cg k (bt x0 x8) 15).bind fun t156 => (if t156 = true then (if x3.length < 140737488355328 then (ax k x0 (x3 ++ [bt x0 x8]) x7 (wrap64 (x8 + 1))) else (none)) else (if (bt x0 x8) = 58 then (if x3.length < 140737488355328 then (ax k x0 (x3 ++ [bt x0 x8]) x7 (wrap64 (x8 + 1))) else (none)) else (if (bt x0 x8) = 64 then (if x3.length < 140737488355328 then (ax k x0 (x3 ++ [bt x0 x8]) x7 (wrap64 (x8 + 1))) else (none)) else ((cy k (bt x0 x8)).bind fun t166 => (if x3.length + t166.size < 140737488355328 then (ax k x0 (x3 ++ aw t166) x7 (wrap64 (x8 + 1))) else (none))))))) else (none)) else (none)) else (some (strOfNums x3))
def cd (k : Nat) (a0 : ByteArray) : Option (ByteArray) := ax k a0 ([] : List Int) (a0.size : Int) 0
theorem dR : ∀ k, (∀ y0 y1 y2 y3, LeO (ax k y0 y1 y2 y3) (ax (k + 1) y0 y1 y2 y3))
  | 0 => fun _ _ _ _ r h => by simp [ax] at h
  | k + 1 => by
    have ih0 := dR k
    have m0 := @eG; have m1 := @cv
    · intro y0 y1 y2 y3
      unfold ax
      exact xmo
theorem eo : ∀ a0 k, LeO (cd k a0) (cd (k + 1) a0) := by
  intro a0 k
  have ih0 := dR k
  have m0 := @eG; have m1 := @cv
  unfold cd
  exact xmo
theorem fA (k : Nat) (a0 : ByteArray) (r : ByteArray) (w : World) (h : cd k a0 = some r) :
    Calls Tryd.prog 31 #[.string a0] w fun e w' => e = .returned (.string r) ∧ Below w.heap.size w w' := by
 have HB := Zz.mk (Below.refl w.heap.size w)
 have H := h
 clear h
 unfold cd at H
 have H' := Zz.mk H
 clear H
 go_enter Tryd.func31, Tryd.ntmps31
 go_wp2
 go_loopg [3, 8] k (fun kq v3 v8 w' => ∃ (Ab : List Int) (Aa : Int), v8 = .int .i64 Aa ∧ Zz (ax kq a0 Ab (a0.size : Int) Aa = some r) ∧ Zz (kq ≤ k) ∧ Zz (Kd.R (Kd.int .u8) 5 w' w.heap.size (fun _ => True) v3 Ab) ∧ Zz (Below w.heap.size w w'))
 case atStart => exact ⟨(([] : List Int)), (0), xrr, H', ⟨Nat.le_refl _⟩, ⟨by first | exact Kd.R_nil _ _ _ _ _ | exact Kd.N_nil _ _ _ _ _ | exact Kd.V_nil _ _ _ _ _ | exact Kd.Q_nil _ _ _ _ _ | exact Kd.S_nil _ _ _ _ _⟩, ⟨xbl⟩⟩
 case round => (
 clear H'
 obtain ⟨Ab, Aa, rfl, HA, HK1, Ac, HB⟩ := hrel
 cases gk with
 | zero => exact absurd HA.out (by simp [ax])
 | succ k1 => (
 have H := HA.out
 clear HA
 simp only [ax] at H
 refine xid H ?_ ?_ <;> clear H <;> intro c2 H
 {
 have Ay := xdt c2
 clear c2
 refine xin H ?_; clear H; intro c3 H
 have Az := xdt c3
 clear c3
 refine xin H ?_; clear H; intro c4 H
 have AA := xdt c4
 clear c4
 replace H := xbd H
 obtain ⟨AB, A6, H⟩ := H
 try dsimp only at H
 refine xib H ?_ ?_ <;> clear H <;> rintro rfl H
 {
 refine xin H ?_; clear H; intro c8 H
 have LMc8 := Zz.mk c8
 clear c8
 obtain ⟨Ai, Ad⟩ : ∃ y_ : List Int, y_ = (Ab ++ [bt a0 Aa]) := ⟨_, rfl⟩
 replace H : (ax k1 a0 Ai (a0.size : Int) (wrap64 (Aa + 1))) = some r := by first | (rw [Ad]; with_reducible exact H) | (have H2_ := (Option.bind_some _ _).symm.trans H; rw [Ad]; with_reducible exact H2_) | (have H2_ := (Option.bind_some _ _).symm.trans H; with_reducible exact H2_) | with_reducible exact H | (rw [Ad]; exact H) | exact H
 have Aj := Zz.mk Ad
 clear Ad
 replace H := xa H
 obtain ⟨p5, q5, hx5⟩ := xiv a0 Aa xod xod
 go_wp2_with (first | ((with_reducible refine xgc (f := 47) rfl ?_); refine xca 15 Tryd.func47 (bp (w := _) (h := A6.out)) ?_; rintro w' ⟨nd, rfl⟩) | ((with_reducible refine cH (b := .append) (xs := #[.tmp 24, .tmp 26]) rfl ?_); at_builtin; refine Kd.R_append (Kd.int .u8) (w0 := w) w.heap.size rfl (.tmp 24) (.tmp 26) 60 5 (.int .u8 0) 1 rfl Tryd.underlying60 gq rfl (by decide) (by omega) u3 Ab (bt a0 Aa) [.int .u8 (bt a0 Aa)] (fun _ => True) (fun _ => False) rfl rfl ?aP (fun _ hk => hk.elim) ?aF ?aO ?aB ?aS ?aL ?_; (case aP => exact rfl); (case aB => exact xbl); (case aF => exact (fun _ _ => trivial)); (case aO => exact (xkd Ac)); (case aS => exact (aA xbl)); (case aL => have := LMc8.out; first | omega | exact Nat.le_of_lt this); intro v158 w9 ho hb hg hat; rw [← Aj.out] at ho; have n0_ := Zz.mk (hb); have n1_ := Zz.mk (ho); clear HB; clear Ac; have HB := n0_; have Ak := n1_; clear n0_ n1_; clear ho hb hg hat))
 go_roundg k1
 case measure => have := HK1.out; omega
 case rel => exact ⟨(Ai), (wrap64 (Aa + 1)), xrr, H, ⟨by have := HK1.out; omega⟩, ⟨xkd Ak⟩, ⟨xbl⟩⟩
 }
 refine xid H ?_ ?_ <;> clear H <;> intro c10 H
 {
 obtain ⟨Al, Am⟩ := xqe c10
 clear c10
 refine xin H ?_; clear H; intro c11 H
 have LMc11 := Zz.mk c11
 clear c11
 obtain ⟨An, Ae⟩ : ∃ y_ : List Int, y_ = (Ab ++ [bt a0 Aa]) := ⟨_, rfl⟩
 replace H : (ax k1 a0 An (a0.size : Int) (wrap64 (Aa + 1))) = some r := by first | (rw [Ae]; with_reducible exact H) | (have H2_ := (Option.bind_some _ _).symm.trans H; rw [Ae]; with_reducible exact H2_) | (have H2_ := (Option.bind_some _ _).symm.trans H; with_reducible exact H2_) | with_reducible exact H | (rw [Ae]; exact H) | exact H
 have Ao := Zz.mk Ae
 clear Ae
 replace H := xa H
 obtain ⟨p5, q5, hx5⟩ := xiv a0 Aa xod xod
 go_wp2_with (first | ((with_reducible refine xgc (f := 47) rfl ?_); refine xca 15 Tryd.func47 (bp (w := _) (h := A6.out)) ?_; rintro w' ⟨nd, rfl⟩) | ((with_reducible refine cH (b := .append) (xs := #[.tmp 24, .tmp 26]) rfl ?_); at_builtin; refine Kd.R_append (Kd.int .u8) (w0 := w) w.heap.size rfl (.tmp 24) (.tmp 26) 60 5 (.int .u8 0) 1 rfl Tryd.underlying60 gq rfl (by decide) (by omega) u3 Ab (bt a0 Aa) [.int .u8 (bt a0 Aa)] (fun _ => True) (fun _ => False) rfl rfl ?aP (fun _ hk => hk.elim) ?aF ?aO ?aB ?aS ?aL ?_; (case aP => exact rfl); (case aB => exact xbl); (case aF => exact (fun _ _ => trivial)); (case aO => exact (xkd Ac)); (case aS => exact (aA xbl)); (case aL => have := LMc11.out; first | omega | exact Nat.le_of_lt this); intro v161 w12 ho hb hg hat; rw [← Ao.out] at ho; have n0_ := Zz.mk (hb); have n1_ := Zz.mk (ho); clear HB; clear Ac; have HB := n0_; have Ap := n1_; clear n0_ n1_; clear ho hb hg hat))
 go_roundg k1
 case measure => have := HK1.out; omega
 case rel => exact ⟨(An), (wrap64 (Aa + 1)), xrr, H, ⟨by have := HK1.out; omega⟩, ⟨xkd Ap⟩, ⟨xbl⟩⟩
 }
 obtain ⟨Al, Am⟩ := xqn c10
 refine xid H ?_ ?_ <;> clear H <;> intro c13 H
 {
 obtain ⟨Aq, Ar⟩ := xqe c13
 clear c13
 refine xin H ?_; clear H; intro c14 H
 have LMc14 := Zz.mk c14
 clear c14
 obtain ⟨As, Af⟩ : ∃ y_ : List Int, y_ = (Ab ++ [bt a0 Aa]) := ⟨_, rfl⟩
 replace H : (ax k1 a0 As (a0.size : Int) (wrap64 (Aa + 1))) = some r := by first | (rw [Af]; with_reducible exact H) | (have H2_ := (Option.bind_some _ _).symm.trans H; rw [Af]; with_reducible exact H2_) | (have H2_ := (Option.bind_some _ _).symm.trans H; with_reducible exact H2_) | with_reducible exact H | (rw [Af]; exact H) | exact H
 have At := Zz.mk Af
 clear Af
 replace H := xa H
 obtain ⟨p5, q5, hx5⟩ := xiv a0 Aa xod xod
 go_wp2_with (first | ((with_reducible refine xgc (f := 47) rfl ?_); refine xca 15 Tryd.func47 (bp (w := _) (h := A6.out)) ?_; rintro w' ⟨nd, rfl⟩) | ((with_reducible refine cH (b := .append) (xs := #[.tmp 24, .tmp 26]) rfl ?_); at_builtin; refine Kd.R_append (Kd.int .u8) (w0 := w) w.heap.size rfl (.tmp 24) (.tmp 26) 60 5 (.int .u8 0) 1 rfl Tryd.underlying60 gq rfl (by decide) (by omega) u3 Ab (bt a0 Aa) [.int .u8 (bt a0 Aa)] (fun _ => True) (fun _ => False) rfl rfl ?aP (fun _ hk => hk.elim) ?aF ?aO ?aB ?aS ?aL ?_; (case aP => exact rfl); (case aB => exact xbl); (case aF => exact (fun _ _ => trivial)); (case aO => exact (xkd Ac)); (case aS => exact (aA xbl)); (case aL => have := LMc14.out; first | omega | exact Nat.le_of_lt this); intro v164 w15 ho hb hg hat; rw [← At.out] at ho; have n0_ := Zz.mk (hb); have n1_ := Zz.mk (ho); clear HB; clear Ac; have HB := n0_; have Au := n1_; clear n0_ n1_; clear ho hb hg hat))
 go_roundg k1
 case measure => have := HK1.out; omega
 case rel => exact ⟨(As), (wrap64 (Aa + 1)), xrr, H, ⟨by have := HK1.out; omega⟩, ⟨xkd Au⟩, ⟨xbl⟩⟩
 }
 obtain ⟨Aq, Ar⟩ := xqn c13
 replace H := xbd H
 obtain ⟨Av, A16, H⟩ := H
 try dsimp only at H
 refine xin H ?_; clear H; intro c17 H
 have LMc17 := Zz.mk c17
 clear c17
 obtain ⟨Ah, Ag⟩ : ∃ y_ : List Int, y_ = (Ab ++ aw Av) := ⟨_, rfl⟩
 replace H : (ax k1 a0 Ah (a0.size : Int) (wrap64 (Aa + 1))) = some r := by first | (rw [Ag]; with_reducible exact H) | (have H2_ := (Option.bind_some _ _).symm.trans H; rw [Ag]; with_reducible exact H2_) | (have H2_ := (Option.bind_some _ _).symm.trans H; with_reducible exact H2_) | with_reducible exact H | (rw [Ag]; exact H) | exact H
 have Aw := Zz.mk Ag
 clear Ag
 replace H := xa H
 obtain ⟨p5, q5, hx5⟩ := xiv a0 Aa xod xod
 go_wp2_with (first | ((with_reducible refine xgc (f := 47) rfl ?_); refine xca 15 Tryd.func47 (bp (w := _) (h := A6.out)) ?_; rintro w' ⟨nd, rfl⟩) | ((with_reducible refine xgc (f := 48) rfl ?_); refine xca 30 Tryd.func48 (fO (w := _) (h := A16.out)) ?_; rintro w18 hb; replace Ac := Zz.mk (Kd.R_below (xkd Ac) hb); replace HB := xst hb; (try clear hb)) | (at_builtin; refine fJ (w0 := w) w.heap.size rfl (.tmp 28) _ 60 9 5 rfl Tryd.underlying60 Tryd.underlying9 gq u3 Ab Av rfl rfl ?aO ?aB ?aS ?aL ?_; (case aB => exact xbl); (case aO => exact (Kd.own_of_R (xkd Ac))); (case aS => exact (aA xbl)); (case aL => have := LMc17.out; first | omega | exact Nat.le_of_lt this); intro v168 w19 ho0 hb hg; have ho := Kd.R_of_own (h1 := fun _ => rfl) (ok := fun _ => True) ho0 (fun _ _ => trivial); clear ho0; have hat := True.intro; rw [← Aw.out] at ho; change Kd.R (Kd.int .u8) 5 w19 w.heap.size (fun _ => True) v168 Ah at ho; have n0_ := Zz.mk (hb); have n1_ := Zz.mk (ho); clear HB; clear Ac; have HB := n0_; have Ax := n1_; clear n0_ n1_; clear ho hb hg hat))
 go_roundg k1
 case measure => have := HK1.out; omega
 case rel => exact ⟨(Ah), (wrap64 (Aa + 1)), xrr, H, ⟨by have := HK1.out; omega⟩, ⟨xkd Ax⟩, ⟨xbl⟩⟩
 }
 have Ay := xdf c2
 clear c2
 obtain rfl := Option.some.inj H
 have hcv20 := dx (P := Tryd.prog) Tryd.underlying60 Tryd.underlying5 Tryd.underlying9 (Kd.own_of_R Ac.out)
 go_wp2
 go_ret
 exact ⟨xre, xbl⟩
 )
 )
def dH (l0 : List ByteArray) (a1 : ByteArray) : Option ByteArray := if l0.length ≤ 140737488355328 ∧ (Go.Lib.join (l0.map (·.data.toList)) a1.data.toList).length ≤ 140737488355328 then some ⟨(Go.Lib.join (l0.map (·.data.toList)) a1.data.toList).toArray⟩ else none
theorem dS (A0 : Option Addr) (c0 : Nat) (l0 : List ByteArray) (a1 : ByteArray) (r : ByteArray) (w : World) (hr0 : Kd.C Kd.string w A0 l0.length l0) (hc0 : l0.length ≤ c0) (h : dH l0 a1 = some r) :
    Calls Tryd.prog 32 #[.slice A0 l0.length c0, .string a1] w fun e w' => e = .returned (.string r) ∧ Below w.heap.size w w' := by
 unfold dH at h
 by_cases hs : l0.length ≤ 140737488355328 ∧ (Go.Lib.join (l0.map (·.data.toList)) a1.data.toList).length ≤ 140737488355328
 · rw [if_pos hs] at h
   obtain rfl := Option.some.inj h
   cases l0 with
   | nil =>
    refine (Tryd.strings_Join_none A0 c0 a1 w).mono ?_
    rintro e w' ⟨rfl, rfl⟩
    exact ⟨rfl, Below.refl _ _⟩
   | cons x l =>
    obtain ⟨ad, rfl, hc⟩ := hr0.2.2 (by simp)
    have hcell : ∀ (j : Nat) y, (x :: l)[j]? = some y → w.cell? (ad.add j) = some (.string y) := by
     intro j y hj
     obtain ⟨c, hl, hk, hu⟩ := hc j y hj
     have hk : c = [Value.string y] := hk
     subst hk
     have h1 := hu 0 _ rfl
     simpa [Kd.string, Kd.scalar] using h1
    have h0 := hcell 0 x rfl
    have h0 : w.cell? ad = some (.string x) := by simpa [Addr.add] using h0
    obtain ⟨bk, o, sp⟩ := ad
    have hsp : sp = none := by
     cases sp with
     | none => rfl
     | some z => unfold World.cell? at h0; split at h0 <;> simp at h0
    subst hsp
    refine (Tryd.strings_Join bk o c0 (x :: l) a1 w ?_ (World.block_lt_of_cell? w _ h0) hs.1 hc0 hs.2).mono ?_
    · intro j y hj
      have h1 := hcell j y hj
      have ha : (⟨bk, o, none⟩ : Addr).add j = ⟨bk, o + j, none⟩ := by unfold Addr.add; split <;> simp_all
      rwa [ha] at h1
    · rintro e w' ⟨rfl, hb⟩
      exact ⟨rfl, hb⟩
 · rw [if_neg hs] at h; cases h
def aI : Nat → List ByteArray → List ByteArray → Int → Int → Bool → List ByteArray → Option (ByteArray)
  | 0, _, _, _, _, _, _ => none
  | k + 1, x3, x8, x9, Ad, Aa, Ab => if Ad < x9 then (if 0 ≤ Ad then (if Ad < (x8.length : Int) then ((cd k (aQ ByteArray.empty x8 Ad)).bind fun Ae => (if x3.length < 8796093022208 then (aI k (x3 ++ [Ae]) x8 x9 (wrap64 (Ad + 1)) Aa Ab) else (none))) else (none)) else (none)) else ((dH x3 (⟨#[47]⟩ : ByteArray)).bind fun Ac => (if Aa = true then (if 1 + Ac.size ≤ 9223372036854775807 then (some ((⟨#[47]⟩ : ByteArray) ++ Ac)) else (none)) else (some Ac)))
def bm (k : Nat) (a0_0 : Bool) (l0_1 : List ByteArray) : Option (ByteArray) := aI k ([] : List ByteArray) l0_1 (l0_1.length : Int) 0 a0_0 l0_1
theorem dk : ∀ k, (∀ y0 y1 y2 y3 y4 y5, LeO (aI k y0 y1 y2 y3 y4 y5) (aI (k + 1) y0 y1 y2 y3 y4 y5))
  | 0 => fun _ _ _ _ _ _ r h => by simp [aI] at h
  | k + 1 => by
    have ih0 := dk k
    have m0 := @eo
    · intro y0 y1 y2 y3 y4 y5
      unfold aI
      exact xmo
theorem fh : ∀ a0 a1 k, LeO (bm k a0 a1) (bm (k + 1) a0 a1) := by
  intro a0 a1 k
  have ih0 := dk k
  have m0 := @eo
  unfold bm
  exact xmo
theorem e9 (k : Nat) (Ah : Bool) (A0_1 : Option Addr) (c0_1 : Nat) (l0_1 : List ByteArray) (r : ByteArray) (w : World) (hr0_1 : Kd.C Kd.string w A0_1 l0_1.length l0_1) (hc0_1 : l0_1.length ≤ c0_1) (h : bm k Ah l0_1 = some r) :
    Calls Tryd.prog 11 #[.agg #[.bool Ah, .slice A0_1 l0_1.length c0_1]] w fun e w' => e = .returned (.string r) ∧ Below w.heap.size w w' := by
 have hu25 := Tryd.underlying25
 have HR0_1 := Zz.mk hr0_1
 have HC0_1 := Zz.mk hc0_1
 clear hr0_1 hc0_1
 have HB := Zz.mk (Below.refl w.heap.size w)
 have H := h
 clear h
 unfold bm at H
 have H' := Zz.mk H
 clear H
 go_enter Tryd.func11, Tryd.ntmps11
 go_wp2_with (first | ((with_reducible refine ab (N := 1) rfl ?_); refine xew 1 ?_; intro Af w2 Aa Aq hb hg; replace HB := xst hb; clear hb hg; have Ay := xz2 Aa.out))
 go_loopg [3, 10] k (fun kq v3 v10 w' => ∃ (Ad : List ByteArray) (Ac : Int), v10 = .int .i64 Ac ∧ Zz (aI kq Ad l0_1 (l0_1.length : Int) Ac Ah l0_1 = some r) ∧ Zz (kq ≤ k) ∧ Zz (Kd.R Kd.string 9 w' w.heap.size (fun _ => True) v3 Ad) ∧ Zz (w'.heap[Af]? = some (.cells #[.bool Ah, (.slice A0_1 l0_1.length c0_1)] 25 (0, 0))) ∧ Zz (Below w.heap.size w w'))
 case atStart => exact ⟨(([] : List ByteArray)), (0), xrr, H', ⟨Nat.le_refl _⟩, ⟨by first | exact Kd.R_nil _ _ _ _ _ | exact Kd.N_nil _ _ _ _ _ | exact Kd.V_nil _ _ _ _ _ | exact Kd.Q_nil _ _ _ _ _ | exact Kd.S_nil _ _ _ _ _⟩, ⟨xbk⟩, ⟨xbl⟩⟩
 case round => (
 clear H'
 obtain ⟨Ad, Ac, rfl, HA, HK1, Ab, Aa, HB⟩ := hrel
 cases gk with
 | zero => exact absurd HA.out (by simp [aI])
 | succ k1 => (
 have H := HA.out
 clear HA
 simp only [aI] at H
 refine xid H ?_ ?_ <;> clear H <;> intro c4 H
 {
 have Ap := xdt c4
 clear c4
 refine xin H ?_; clear H; intro c5 H
 have Au := xdt c5
 clear c5
 refine xin H ?_; clear H; intro c6 H
 have Av := xdt c6
 clear c6
 replace H := xbd H
 obtain ⟨Aj, A7, H⟩ := H
 try dsimp only at H
 refine xin H ?_; clear H; intro c8 H
 have LMc8 := Zz.mk c8
 clear c8
 obtain ⟨Al, Ag⟩ : ∃ y_ : List ByteArray, y_ = (Ad ++ [Aj]) := ⟨_, rfl⟩
 replace H : (aI k1 Al l0_1 (l0_1.length : Int) (wrap64 (Ac + 1)) Ah l0_1) = some r := by first | (rw [Ag]; with_reducible exact H) | (have H2_ := (Option.bind_some _ _).symm.trans H; rw [Ag]; with_reducible exact H2_) | (have H2_ := (Option.bind_some _ _).symm.trans H; with_reducible exact H2_) | with_reducible exact H | (rw [Ag]; exact H) | exact H
 have Am := Zz.mk Ag
 clear Ag
 replace H := xa H
 have p171 : 0 ≤ (Ac : Int) := xod
 have q171 : Ac < (l0_1.length : Int) := xod
 obtain ⟨Ai, e171, Ae⟩ := Kd.at_string HR0_1.out Ac p171 q171
 cases e171
 replace Ae := (HB.out.cell (World.block_lt_of_cell? w _ Ae)).trans Ae
 replace p171 := eq_true p171
 replace q171 := eq_true q171
 try (have An := q171; simp only [ByteArray.size_extract, Nat.min_self] at An)
 go_wp2_with (first | ((with_reducible refine xgc (f := 31) rfl ?_); refine xca 16 Tryd.func31 (fA (w := _) (h := A7.out)) ?_; rintro w9 hb; replace Ab := Zz.mk (Kd.R_below (xkd Ab) hb); replace Aa := xbb (g := Af) (o := .cells #[.bool Ah, .slice (some Ai) l0_1.length c0_1] 25 (0, 0)) hb; replace HB := xst hb; (try clear hb)) | ((with_reducible refine cH (b := .append) (xs := #[.tmp 14, .tmp 17]) rfl ?_); at_builtin; refine Kd.R_append Kd.string (w0 := w) w.heap.size rfl (.tmp 14) (.tmp 17) 23 9 (.string ⟨#[]⟩) 16 rfl Tryd.underlying23 eY rfl (by decide) (by omega) u3 Ad Aj [.string Aj] (fun _ => True) (fun _ => False) rfl rfl ?aP (fun _ hk => hk.elim) ?aF ?aO ?aB ?aS ?aL ?_; (case aP => exact rfl); (case aB => exact xbl); (case aF => exact (fun _ _ => trivial)); (case aO => exact (xkd Ab)); (case aS => exact (aA xbl)); (case aL => have := LMc8.out; first | omega | exact Nat.le_of_lt this); intro v174 w10 ho hb hg hat; rw [← Am.out] at ho; have n0_ := Zz.mk (fj (g := Af) (o := .cells #[.bool Ah, .slice (some Ai) l0_1.length c0_1] 25 (0, 0)) xbk hg (Kd.R_ne Ab.out Aa.out (by decide))); have n1_ := Zz.mk (hb); have n2_ := Zz.mk (ho); clear Aa; clear HB; clear Ab; have Aa := n0_; have HB := n1_; have Ao := n2_; clear n0_ n1_ n2_; clear ho hb hg hat))
 go_roundg k1
 case measure => have := HK1.out; omega
 case rel => exact ⟨(Al), (wrap64 (Ac + 1)), xrr, H, ⟨by have := HK1.out; omega⟩, ⟨xkd Ao⟩, ⟨xbk⟩, ⟨xbl⟩⟩
 }
 have Ap := xdf c4
 clear c4
 replace H := xbd H
 obtain ⟨Ak, A11, H⟩ := H
 try dsimp only at H
 refine xib H ?_ ?_ <;> clear H <;> rintro rfl H
 {
 refine xin H ?_; clear H; intro c13 H
 obtain ⟨Ar, As⟩ := xcp c13
 try have At : (9223372036854775807 < 1 + Ak.size) = False := eq_false (Nat.not_lt.2 c13)
 obtain rfl := Option.some.inj H
 obtain ⟨Ao14, co14, eo14⟩ := Kd.R_slice Ab.out
 subst eo14
 go_wp2_with (first | ((with_reducible refine xgc (f := 32) rfl ?_); refine xgl 21 Tryd.func32 #[.slice Ao14 Ad.length co14, .string (⟨#[47]⟩ : ByteArray)] ?_; (with_reducible refine (dS _ _ Ad (⟨#[47]⟩ : ByteArray) Ak _ ?side1 ?side2 A11.out).mono ?_); (case side1 => repeat (first | exact (Kd.R_reads' Ab.out).2.2 | (with_reducible refine Kd.C_alloc ?_ _) | (with_reducible refine Kd.C_drewN ?_ _) | (with_reducible refine Kd.C_drew ?_))); (case side2 => exact (Kd.R_reads' Ab.out).2.1); rintro e w15 ⟨rfl, hb⟩; refine ⟨_, rfl, ?_⟩; replace Ab := Zz.mk (Kd.R_below (xkd Ab) hb); replace Aa := xbb (g := Af) (o := .cells #[.bool true, .slice A0_1 l0_1.length c0_1] 25 (0, 0)) hb; replace HB := xst hb; (try clear hb); have Aw := xz2 Aa.out))
 go_ret
 exact ⟨xre, xbl⟩
 }
 obtain rfl := Option.some.inj H
 obtain ⟨Ao17, co17, eo17⟩ := Kd.R_slice Ab.out
 subst eo17
 go_wp2_with (first | ((with_reducible refine xgc (f := 32) rfl ?_); refine xgl 21 Tryd.func32 #[.slice Ao17 Ad.length co17, .string (⟨#[47]⟩ : ByteArray)] ?_; (with_reducible refine (dS _ _ Ad (⟨#[47]⟩ : ByteArray) Ak _ ?side1 ?side2 A11.out).mono ?_); (case side1 => repeat (first | exact (Kd.R_reads' Ab.out).2.2 | (with_reducible refine Kd.C_alloc ?_ _) | (with_reducible refine Kd.C_drewN ?_ _) | (with_reducible refine Kd.C_drew ?_))); (case side2 => exact (Kd.R_reads' Ab.out).2.1); rintro e w18 ⟨rfl, hb⟩; refine ⟨_, rfl, ?_⟩; replace Ab := Zz.mk (Kd.R_below (xkd Ab) hb); replace Aa := xbb (g := Af) (o := .cells #[.bool false, .slice A0_1 l0_1.length c0_1] 25 (0, 0)) hb; replace HB := xst hb; (try clear hb); have Ax := xz2 Aa.out))
 go_ret
 exact ⟨xre, xbl⟩
 )
 )
def aK (a0_0 : Bool) (l0_1 : List ByteArray) : Option (ByteArray) := if (l0_1.length : Int) > 0 then (if 0 ≤ (wrap64 ((l0_1.length : Int) - 1)) then (if (wrap64 ((l0_1.length : Int) - 1)) < (l0_1.length : Int) then (some (aQ ByteArray.empty l0_1 (wrap64 ((l0_1.length : Int) - 1)))) else (none)) else (none)) else (some (⟨#[]⟩ : ByteArray))
theorem bx (Ad : Bool) (A0_1 : Option Addr) (c0_1 : Nat) (l0_1 : List ByteArray) (r : ByteArray) (w : World) (hr0_1 : Kd.C Kd.string w A0_1 l0_1.length l0_1) (hc0_1 : l0_1.length ≤ c0_1) (h : aK Ad l0_1 = some r) :
    Calls Tryd.prog 20 #[.agg #[.bool Ad, .slice A0_1 l0_1.length c0_1]] w fun e w' => e = .returned (.string r) ∧ Below w.heap.size w w' := by
 have hu25 := Tryd.underlying25
 have HR0_1 := Zz.mk hr0_1
 have HC0_1 := Zz.mk hc0_1
 clear hr0_1 hc0_1
 have HB := Zz.mk (Below.refl w.heap.size w)
 have H := h
 clear h
 unfold aK at H
 refine xid H ?_ ?_ <;> clear H <;> intro c2 H
 {
 have Ah := xdt c2
 have Ai : decide (0 < l0_1.length) = true := decide_eq_true (by omega)
 clear c2
 obtain ⟨Ag, Ac⟩ : ∃ j_ : Int, (wrap64 ((l0_1.length : Int) - 1)) = j_ := ⟨_, rfl⟩
 first | rw [Ac] at H | simp only [Ac] at H | skip
 have Aj : (IntKind.i64.wrap ((l0_1.length : Int) - 1)) = Ag := (am _).trans Ac
 refine xin H ?_; clear H; intro c4 H
 have Al := xdt c4
 clear c4
 refine xin H ?_; clear H; intro c5 H
 have Am := xdt c5
 clear c5
 obtain rfl := Option.some.inj H
 go_enter Tryd.func20, Tryd.ntmps20
 go_wp2_with (first | ((with_reducible refine ab (N := 1) rfl ?_); refine xew 1 ?_; intro Ae w6 Ab Af hb hg; replace HB := xst hb; clear hb hg; have An := xz2 Ab.out; have p178 : 0 ≤ ((Ag) : Int) := xod; have q178 : (Ag) < (l0_1.length : Int) := xod; obtain ⟨Ak, e178, Aa⟩ := Kd.at_string HR0_1.out (Ag) p178 q178; cases e178; replace Aa := (HB.out.cell (World.block_lt_of_cell? w _ Aa)).trans Aa; replace p178 := eq_true p178; replace q178 := eq_true q178))
 go_ret
 exact ⟨by first | exact xrd | (simp only [← Ac]; exact xrd) | exact xre, xbl⟩
 }
 have Ah := xdf c2
 have Ai : decide (0 < l0_1.length) = false := decide_eq_false (by omega)
 clear c2
 obtain rfl := Option.some.inj H
 go_enter Tryd.func20, Tryd.ntmps20
 go_wp2_with (first | ((with_reducible refine ab (N := 1) rfl ?_); refine xew 1 ?_; intro Ae w8 Ab Af hb hg; replace HB := xst hb; clear hb hg; have Ao := xz2 Ab.out))
 go_ret
 exact ⟨xre, xbl⟩
def ae : Nat → ByteArray → Int → Int → Option (Int)
  | 0, _, _, _ => none
  | k + 1, x0, x1, x5 => if x5 ≥ 0 then (if 0 ≤ x5 then (if x5 < (x0.size : Int) then (if (bt x0 x5) = x1 then (some x5) else (ae k x0 x1 (wrap64 (x5 - 1)))) else (none)) else (none)) else (some (-1))
def ay (k : Nat) (a0 : ByteArray) (a1 : Int) : Option (Int) := ae k a0 a1 (wrap64 ((a0.size : Int) - 1))
theorem bW : ∀ k, (∀ y0 y1 y2, LeO (ae k y0 y1 y2) (ae (k + 1) y0 y1 y2))
  | 0 => fun _ _ _ r h => by simp [ae] at h
  | k + 1 => by
    have ih0 := bW k
    · intro y0 y1 y2
      unfold ae
      exact xmo
theorem cS : ∀ a0 a1 k, LeO (ay k a0 a1) (ay (k + 1) a0 a1) := by
  intro a0 a1 k
  have ih0 := bW k
  unfold ay
  exact xmo
theorem cO (k : Nat) (a0 : ByteArray) (a1 : Int) (r : Int) (w : World) (h : ay k a0 a1 = some r) :
    Calls Tryd.prog 53 #[.string a0, .int .u8 a1] w fun e w' => e = .returned (.int .i64 r) ∧ Drawn0 w w' := by
 have H := h
 clear h
 unfold ay at H
 have H' := Zz.mk H
 clear H
 go_enter Tryd.func53, Tryd.ntmps53
 go_wp2
 go_loopg [5] k (fun kq v5 w' => ∃ Aa, v5 = .int .i64 Aa ∧ Zz (ae kq a0 a1 Aa = some r) ∧ Zz (kq ≤ k) ∧ Drawn0 w w')
 case atStart => exact ⟨(wrap64 ((a0.size : Int) - 1)), xrr, H', ⟨Nat.le_refl _⟩, xdr⟩
 case round => (
 clear H'
 obtain ⟨Aa, rfl, HA, HK1, ⟨m1, rfl⟩⟩ := hrel
 cases gk with
 | zero => exact absurd HA.out (by simp [ae])
 | succ k1 => (
 have H := HA.out
 clear HA
 simp only [ae] at H
 refine xid H ?_ ?_ <;> clear H <;> intro c3 H
 {
 have Ab := xdt c3
 clear c3
 refine xin H ?_; clear H; intro c4 H
 have Ae := xdt c4
 clear c4
 refine xin H ?_; clear H; intro c5 H
 have Af := xdt c5
 clear c5
 refine xid H ?_ ?_ <;> clear H <;> intro c7 H
 {
 obtain ⟨Ac, Ad⟩ := xqe c7
 clear c7
 obtain rfl := Option.some.inj H
 obtain ⟨p6, q6, hx6⟩ := xiv a0 Aa xod xod
 go_wp2
 go_ret
 exact ⟨xrr, xdr⟩
 }
 obtain ⟨Ac, Ad⟩ := xqn c7
 replace H := xa H
 obtain ⟨p6, q6, hx6⟩ := xiv a0 Aa xod xod
 go_wp2
 go_roundg k1
 case measure => have := HK1.out; omega
 case rel => exact ⟨(wrap64 (Aa - 1)), xrr, H, ⟨by have := HK1.out; omega⟩, xdr⟩
 }
 have Ab := xdf c3
 clear c3
 obtain rfl := Option.some.inj H
 go_wp2
 go_ret
 exact ⟨xrr, xdr⟩
 )
 )
def aE (k : Nat) (a0 : ByteArray) (a1 : Int) : Option (Int) := (ay k a0 a1).bind fun t179 => (some t179)
theorem dU : ∀ a0 a1 k, LeO (aE k a0 a1) (aE (k + 1) a0 a1) := by
  intro a0 a1 k
  have m0 := @cS
  unfold aE
  exact xmo
theorem co (k : Nat) (a0 : ByteArray) (a1 : Int) (r : Int) (w : World) (h : aE k a0 a1 = some r) :
    Calls Tryd.prog 37 #[.string a0, .int .u8 a1] w fun e w' => e = .returned (.int .i64 r) ∧ Drawn0 w w' := by
 have H := h
 clear h
 unfold aE at H
 replace H := xbd H
 obtain ⟨t179, A3, H⟩ := H
 try dsimp only at H
 obtain rfl := Option.some.inj H
 go_enter Tryd.func37, Tryd.ntmps37
 go_wp2_with (first | ((with_reducible refine xgc (f := 53) rfl ?_); refine xca 7 Tryd.func53 (cO (w := _) (h := A3.out)) ?_; rintro w' ⟨nd, rfl⟩))
 go_ret
 exact ⟨xrr, xdr⟩
def aX (k : Nat) (Ac : Bool) (l0_1 : List ByteArray) : Option (ByteArray) := (aK Ac l0_1).bind fun Aa => ((aE k Aa 46).bind fun Ab => (if Ab > 0 then (if 0 ≤ (wrap64 (Ab + 1)) then (if (wrap64 (Ab + 1)) ≤ (Aa.size : Int) then (some (Aa.extract ((wrap64 (Ab + 1)) : Int).toNat Aa.size)) else (none)) else (none)) else (some (⟨#[]⟩ : ByteArray))))
theorem fp : ∀ a0 a1 k, LeO (aX k a0 a1) (aX (k + 1) a0 a1) := by
  intro a0 a1 k
  have m0 := @dU
  unfold aX
  exact xmo
theorem b8 (k : Nat) (Ab : Bool) (A0_1 : Option Addr) (c0_1 : Nat) (l0_1 : List ByteArray) (r : ByteArray) (w : World) (hr0_1 : Kd.C Kd.string w A0_1 l0_1.length l0_1) (hc0_1 : l0_1.length ≤ c0_1) (h : aX k Ab l0_1 = some r) :
    Calls Tryd.prog 21 #[.agg #[.bool Ab, .slice A0_1 l0_1.length c0_1]] w fun e w' => e = .returned (.string r) ∧ Below w.heap.size w w' := by
 have hu25 := Tryd.underlying25
 have HR0_1 := Zz.mk hr0_1
 have HC0_1 := Zz.mk hc0_1
 clear hr0_1 hc0_1
 have HB := Zz.mk (Below.refl w.heap.size w)
 have H := h
 clear h
 unfold aX at H
 replace H := xbd H
 obtain ⟨Af, A2, H⟩ := H
 try dsimp only at H
 replace H := xbd H
 obtain ⟨Ag, A3, H⟩ := H
 try dsimp only at H
 refine xid H ?_ ?_ <;> clear H <;> intro c4 H
 {
 have Ai := xdt c4
 clear c4
 obtain ⟨Aj, Ac⟩ : ∃ j_ : Int, (wrap64 (Ag + 1)) = j_ := ⟨_, rfl⟩
 first | rw [Ac] at H | simp only [Ac] at H | skip
 (try rw [Ac] at A2)
 (try rw [Ac] at A3)
 have Ak : (IntKind.i64.wrap (Ag + 1)) = Aj := (am _).trans Ac
 refine xin H ?_; clear H; intro c6 H
 obtain ⟨Al, Am⟩ := xcp c6
 clear c6
 refine xin H ?_; clear H; intro c7 H
 obtain ⟨An, Ao⟩ := xcp c7
 clear c7
 obtain ⟨Ar, Ad⟩ : ∃ j_ : ByteArray, (Af.extract ((Aj) : Int).toNat Af.size) = j_ := ⟨_, rfl⟩
 first | rw [Ad] at H | simp only [Ad] at H | skip
 (try rw [Ad] at A2)
 (try rw [Ad] at A3)
 obtain rfl := Option.some.inj H
 go_enter Tryd.func21, Tryd.ntmps21
 go_wp2_with (first | ((with_reducible refine ab (N := 1) rfl ?_); refine xew 1 ?_; intro Ae w9 Aa Ah hb hg; replace HB := xst hb; clear hb hg; have Ap := xz2 Aa.out) | ((with_reducible refine xgc (f := 20) rfl ?_); refine xgl 6 Tryd.func20 #[.agg #[.bool Ab, .slice A0_1 l0_1.length c0_1]] ?_; (with_reducible refine (bx Ab _ _ l0_1 Af _ ?side1 ?side2 A2.out).mono ?_); (case side1 => repeat (first | exact (Kd.C_below HR0_1.out HB.out) | (with_reducible refine Kd.C_alloc ?_ _) | (with_reducible refine Kd.C_drewN ?_ _) | (with_reducible refine Kd.C_drew ?_))); (case side2 => exact HC0_1.out); rintro e w11 ⟨rfl, hb⟩; refine ⟨_, rfl, ?_⟩; replace Aa := xbq Ae hb; replace HB := xst hb; (try clear hb)) | ((with_reducible refine xgc (f := 37) rfl ?_); refine xca 8 Tryd.func37 (co (w := _) (h := A3.out)) ?_; rintro w' ⟨nd, rfl⟩))
 go_ret
 exact ⟨by first | exact xrd | (simp only [← Ac, ← Ad]; exact xrd) | exact xre, xbl⟩
 }
 have Ai := xdf c4
 clear c4
 obtain rfl := Option.some.inj H
 go_enter Tryd.func21, Tryd.ntmps21
 go_wp2_with (first | ((with_reducible refine ab (N := 1) rfl ?_); refine xew 1 ?_; intro Ae w12 Aa Ah hb hg; replace HB := xst hb; clear hb hg; have Aq := xz2 Aa.out) | ((with_reducible refine xgc (f := 20) rfl ?_); refine xgl 6 Tryd.func20 #[.agg #[.bool Ab, .slice A0_1 l0_1.length c0_1]] ?_; (with_reducible refine (bx Ab _ _ l0_1 Af _ ?side1 ?side2 A2.out).mono ?_); (case side1 => repeat (first | exact (Kd.C_below HR0_1.out HB.out) | (with_reducible refine Kd.C_alloc ?_ _) | (with_reducible refine Kd.C_drewN ?_ _) | (with_reducible refine Kd.C_drew ?_))); (case side2 => exact HC0_1.out); rintro e w14 ⟨rfl, hb⟩; refine ⟨_, rfl, ?_⟩; replace Aa := xbq Ae hb; replace HB := xst hb; (try clear hb)) | ((with_reducible refine xgc (f := 37) rfl ?_); refine xca 8 Tryd.func37 (co (w := _) (h := A3.out)) ?_; rintro w' ⟨nd, rfl⟩))
 go_ret
 exact ⟨xre, xbl⟩
def aq (k : Nat)  : Option (Bool) := (bQ k (⟨#[47, 97, 37, 50, 70, 98, 47, 99, 46, 120]⟩ : ByteArray)).bind fun Aa => (if Aa.2.2 = 0 then (if Aa.1 = true then (if (Aa.2.1.length : Int) = 2 then (if 0 < (Aa.2.1.length : Int) then (if (aQ ByteArray.empty Aa.2.1 0).toList = ([97, 47, 98] : List UInt8) then ((aX k Aa.1 Aa.2.1).bind fun Ab => (if Ab.toList = ([120] : List UInt8) then ((bm k Aa.1 Aa.2.1).bind fun Ac => (some (Ac.toList == ([47, 97, 37, 50, 70, 98, 47, 99, 46, 120] : List UInt8)))) else (some false))) else (some false)) else (none)) else (some false)) else (some false)) else (some false))
theorem es : ∀ k, LeO (aq k ) (aq (k + 1) ) := by
  intro  k
  have m0 := @fW; have m1 := @fp; have m2 := @fh
  unfold aq
  exact xmo
theorem b6 (k : Nat)  (r : Bool) (w : World) (hG : GW w) (h : aq k  = some r) :
    Calls Tryd.prog 7 #[] w fun e w' => e = .returned (.bool r) ∧ Below w.heap.size w w' := by
 have hu25 := Tryd.underlying25
 have HB := Zz.mk (Below.refl w.heap.size w)
 have H := h
 clear h
 unfold aq at H
 replace H := xbd H
 obtain ⟨⟨As, Af, At⟩, A1, H⟩ := H
 try dsimp only at H
 refine xid H ?_ ?_ <;> clear H <;> intro c2 H
 {
 obtain ⟨Aj, Ak⟩ := xqe c2
 clear c2
 refine xib H ?_ ?_ <;> clear H <;> rintro rfl H
 {
 refine xid H ?_ ?_ <;> clear H <;> intro c4 H
 {
 obtain ⟨Al, Am⟩ := xqe c4
 clear c4
 refine xin H ?_; clear H; intro c5 H
 have Au := xdt c5
 have Av : decide (0 < Af.length) = true := decide_eq_true (by omega)
 clear c5
 refine xid H ?_ ?_ <;> clear H <;> intro c6 H
 {
 obtain ⟨An, Ao⟩ := xqe c6
 clear c6
 replace H := xbd H
 obtain ⟨Ai, A7, H⟩ := H
 try dsimp only at H
 refine xid H ?_ ?_ <;> clear H <;> intro c8 H
 {
 obtain ⟨Ap, Aq⟩ := xqe c8
 clear c8
 replace H := xbd H
 obtain ⟨Ar, A9, H⟩ := H
 try dsimp only at H
 obtain rfl := Option.some.inj H
 go_enter Tryd.func7, Tryd.ntmps7
 go_wp2_with (first | ((with_reducible refine xgc (f := 8) rfl ?_); refine xgl 4 Tryd.func8 #[.string (⟨#[47, 97, 37, 50, 70, 98, 47, 99, 46, 120]⟩ : ByteArray)] ?_; (with_reducible refine (bJ (w := _) (hG := xG) (h := A1.out)).mono ?_); rintro e w10 ⟨v185, rfl, ho0, hb⟩; refine ⟨_, rfl, ?_⟩; have Aa := Zz.mk (Kd.R_lower ho0 (aA xbl)); replace HB := xst hb; (try clear hb); (try clear ho0)) | ((with_reducible refine ab (N := 1) rfl ?_); (try (refine al (by rfl) ?_; dsimp only)); refine xew 1 ?_; intro Ac w11 Ad Ag hb hg; replace Aa := Zz.mk (Kd.R_below (xkd Aa) hb); replace HB := xst hb; clear hb hg; have Aw := xz2 Ad.out; obtain ⟨Ao13, co13, eo13⟩ := Kd.R_slice Aa.out; subst eo13; have p189 : 0 ≤ (0 : Int) := (by omega); have q189 : 0 < (Af.length : Int) := xod; obtain ⟨Ae, e189, Ab⟩ := Kd.at_string (Kd.R_reads' Aa.out).2.2 0 p189 q189; cases e189; have Ah : (0 < Af.length) = True := eq_true (by omega); (try rw [show ((0 : Int)).toNat = 0 from rfl] at Ab); (try rw [Addr.add_zero'] at Ab); have hn189_0 : Ae.block ≠ Ac := Kd.own_blk (Kd.R_ne Aa.out Ad.out (by decide)); have hn189_1 : Ae.block ≠ Ac := Kd.own_blk (Kd.R_ne Aa.out Ad.out (by decide)); replace Ab := (ci (p := ⟨Ac, 0, none⟩) (by first | (rw [bF]; exact hn189_0) | (show (Addr.add _ _).block ≠ _; rw [bF]; exact hn189_0) | exact hn189_0) (.bool true)).trans Ab; replace Ab := (ci (p := ⟨Ac, 1, none⟩) (by first | (rw [bF]; exact hn189_1) | (show (Addr.add _ _).block ≠ _; rw [bF]; exact hn189_1) | exact hn189_1) (.slice (some Ae) Af.length co13)).trans Ab; clear hn189_0; clear hn189_1; replace p189 := eq_true p189; replace q189 := eq_true q189) | (go_at_call 21; (with_reducible refine (b8 k true _ _ Af Ai _ ?side1 ?side2 A7.out).mono ?_); (case side1 => refine (Kd.R_reads' (e := 9) (base := w.heap.size) (ok := fun k_ => True) (n := Af.length) (c := co13) ?_).2.2; exact (by (with_reducible repeat (first | apply Kd.R_alloc | apply Kd.R_drewN | apply Kd.R_drew)); exact (Kd.R_mono (Kd.R_far (p := ⟨Ac, 1, none⟩) (Kd.R_far (p := ⟨Ac, 0, none⟩) (Kd.R_types Aa.out Ad.out (by decide)) (fun _ hk => hk.2) (.bool true)) (fun _ hk => hk.2) (.slice (some Ae) Af.length co13)) (fun _ h_ => h_.1)))); (case side2 => exact (Kd.R_reads' Aa.out).2.1); rintro e w14 ⟨rfl, hb⟩; replace Aa := Zz.mk (Kd.R_below (by (with_reducible repeat (first | apply Kd.R_alloc | apply Kd.R_drewN | apply Kd.R_drew)); exact (Kd.R_mono (Kd.R_far (p := ⟨Ac, 1, none⟩) (Kd.R_far (p := ⟨Ac, 0, none⟩) (Kd.R_types Aa.out Ad.out (by decide)) (fun _ hk => hk.2) (.bool true)) (fun _ hk => hk.2) (.slice (some Ae) Af.length co13)) (fun _ h_ => h_.1))) hb); replace Ad := xbb (g := Ac) (o := .cells #[.bool true, .slice (some Ae) Af.length co13] 25 (0, 0)) hb; replace HB := xst hb; (try clear hb); have Ax := xz2 Ad.out) | (go_at_call 11; (with_reducible refine (e9 k true _ _ Af Ar _ ?side1 ?side2 A9.out).mono ?_); (case side1 => repeat (first | exact (Kd.R_reads' Aa.out).2.2 | (with_reducible refine Kd.C_alloc ?_ _) | (with_reducible refine Kd.C_drewN ?_ _) | (with_reducible refine Kd.C_drew ?_))); (case side2 => exact (Kd.R_reads' Aa.out).2.1); rintro e w16 ⟨rfl, hb⟩; replace Aa := Zz.mk (Kd.R_below (xkd Aa) hb); replace Ad := xbq Ac hb; replace HB := xst hb; (try clear hb)))
 go_ret
 exact ⟨xre, xbl⟩
 }
 obtain ⟨Ap, Aq⟩ := xqn c8
 obtain rfl := Option.some.inj H
 go_enter Tryd.func7, Tryd.ntmps7
 go_wp2_with (first | ((with_reducible refine xgc (f := 8) rfl ?_); refine xgl 4 Tryd.func8 #[.string (⟨#[47, 97, 37, 50, 70, 98, 47, 99, 46, 120]⟩ : ByteArray)] ?_; (with_reducible refine (bJ (w := _) (hG := xG) (h := A1.out)).mono ?_); rintro e w17 ⟨v185, rfl, ho0, hb⟩; refine ⟨_, rfl, ?_⟩; have Aa := Zz.mk (Kd.R_lower ho0 (aA xbl)); replace HB := xst hb; (try clear hb); (try clear ho0)) | ((with_reducible refine ab (N := 1) rfl ?_); (try (refine al (by rfl) ?_; dsimp only)); refine xew 1 ?_; intro Ac w18 Ad Ag hb hg; replace Aa := Zz.mk (Kd.R_below (xkd Aa) hb); replace HB := xst hb; clear hb hg; have Ay := xz2 Ad.out; obtain ⟨Ao20, co20, eo20⟩ := Kd.R_slice Aa.out; subst eo20; have p189 : 0 ≤ (0 : Int) := (by omega); have q189 : 0 < (Af.length : Int) := xod; obtain ⟨Ae, e189, Ab⟩ := Kd.at_string (Kd.R_reads' Aa.out).2.2 0 p189 q189; cases e189; have Ah : (0 < Af.length) = True := eq_true (by omega); (try rw [show ((0 : Int)).toNat = 0 from rfl] at Ab); (try rw [Addr.add_zero'] at Ab); have hn189_0 : Ae.block ≠ Ac := Kd.own_blk (Kd.R_ne Aa.out Ad.out (by decide)); have hn189_1 : Ae.block ≠ Ac := Kd.own_blk (Kd.R_ne Aa.out Ad.out (by decide)); replace Ab := (ci (p := ⟨Ac, 0, none⟩) (by first | (rw [bF]; exact hn189_0) | (show (Addr.add _ _).block ≠ _; rw [bF]; exact hn189_0) | exact hn189_0) (.bool true)).trans Ab; replace Ab := (ci (p := ⟨Ac, 1, none⟩) (by first | (rw [bF]; exact hn189_1) | (show (Addr.add _ _).block ≠ _; rw [bF]; exact hn189_1) | exact hn189_1) (.slice (some Ae) Af.length co20)).trans Ab; clear hn189_0; clear hn189_1; replace p189 := eq_true p189; replace q189 := eq_true q189) | (go_at_call 21; (with_reducible refine (b8 k true _ _ Af Ai _ ?side1 ?side2 A7.out).mono ?_); (case side1 => refine (Kd.R_reads' (e := 9) (base := w.heap.size) (ok := fun k_ => True) (n := Af.length) (c := co20) ?_).2.2; exact (by (with_reducible repeat (first | apply Kd.R_alloc | apply Kd.R_drewN | apply Kd.R_drew)); exact (Kd.R_mono (Kd.R_far (p := ⟨Ac, 1, none⟩) (Kd.R_far (p := ⟨Ac, 0, none⟩) (Kd.R_types Aa.out Ad.out (by decide)) (fun _ hk => hk.2) (.bool true)) (fun _ hk => hk.2) (.slice (some Ae) Af.length co20)) (fun _ h_ => h_.1)))); (case side2 => exact (Kd.R_reads' Aa.out).2.1); rintro e w21 ⟨rfl, hb⟩; replace Aa := Zz.mk (Kd.R_below (by (with_reducible repeat (first | apply Kd.R_alloc | apply Kd.R_drewN | apply Kd.R_drew)); exact (Kd.R_mono (Kd.R_far (p := ⟨Ac, 1, none⟩) (Kd.R_far (p := ⟨Ac, 0, none⟩) (Kd.R_types Aa.out Ad.out (by decide)) (fun _ hk => hk.2) (.bool true)) (fun _ hk => hk.2) (.slice (some Ae) Af.length co20)) (fun _ h_ => h_.1))) hb); replace Ad := xbb (g := Ac) (o := .cells #[.bool true, .slice (some Ae) Af.length co20] 25 (0, 0)) hb; replace HB := xst hb; (try clear hb)))
 go_ret
 exact ⟨xre, xbl⟩
 }
 obtain ⟨An, Ao⟩ := xqn c6
 obtain rfl := Option.some.inj H
 go_enter Tryd.func7, Tryd.ntmps7
 go_wp2_with (first | ((with_reducible refine xgc (f := 8) rfl ?_); refine xgl 4 Tryd.func8 #[.string (⟨#[47, 97, 37, 50, 70, 98, 47, 99, 46, 120]⟩ : ByteArray)] ?_; (with_reducible refine (bJ (w := _) (hG := xG) (h := A1.out)).mono ?_); rintro e w22 ⟨v185, rfl, ho0, hb⟩; refine ⟨_, rfl, ?_⟩; have Aa := Zz.mk (Kd.R_lower ho0 (aA xbl)); replace HB := xst hb; (try clear hb); (try clear ho0)) | ((with_reducible refine ab (N := 1) rfl ?_); (try (refine al (by rfl) ?_; dsimp only)); refine xew 1 ?_; intro Ac w23 Ad Ag hb hg; replace Aa := Zz.mk (Kd.R_below (xkd Aa) hb); replace HB := xst hb; clear hb hg; have Az := xz2 Ad.out; obtain ⟨Ao25, co25, eo25⟩ := Kd.R_slice Aa.out; subst eo25; have p189 : 0 ≤ (0 : Int) := (by omega); have q189 : 0 < (Af.length : Int) := xod; obtain ⟨Ae, e189, Ab⟩ := Kd.at_string (Kd.R_reads' Aa.out).2.2 0 p189 q189; cases e189; have Ah : (0 < Af.length) = True := eq_true (by omega); (try rw [show ((0 : Int)).toNat = 0 from rfl] at Ab); (try rw [Addr.add_zero'] at Ab); have hn189_0 : Ae.block ≠ Ac := Kd.own_blk (Kd.R_ne Aa.out Ad.out (by decide)); have hn189_1 : Ae.block ≠ Ac := Kd.own_blk (Kd.R_ne Aa.out Ad.out (by decide)); replace Ab := (ci (p := ⟨Ac, 0, none⟩) (by first | (rw [bF]; exact hn189_0) | (show (Addr.add _ _).block ≠ _; rw [bF]; exact hn189_0) | exact hn189_0) (.bool true)).trans Ab; replace Ab := (ci (p := ⟨Ac, 1, none⟩) (by first | (rw [bF]; exact hn189_1) | (show (Addr.add _ _).block ≠ _; rw [bF]; exact hn189_1) | exact hn189_1) (.slice (some Ae) Af.length co25)).trans Ab; clear hn189_0; clear hn189_1; replace p189 := eq_true p189; replace q189 := eq_true q189))
 go_ret
 exact ⟨xre, xbl⟩
 }
 obtain ⟨Al, Am⟩ := xqn c4
 obtain rfl := Option.some.inj H
 go_enter Tryd.func7, Tryd.ntmps7
 go_wp2_with (first | ((with_reducible refine xgc (f := 8) rfl ?_); refine xgl 4 Tryd.func8 #[.string (⟨#[47, 97, 37, 50, 70, 98, 47, 99, 46, 120]⟩ : ByteArray)] ?_; (with_reducible refine (bJ (w := _) (hG := xG) (h := A1.out)).mono ?_); rintro e w26 ⟨v185, rfl, ho0, hb⟩; refine ⟨_, rfl, ?_⟩; have Aa := Zz.mk (Kd.R_lower ho0 (aA xbl)); replace HB := xst hb; (try clear hb); (try clear ho0)) | ((with_reducible refine ab (N := 1) rfl ?_); (try (refine al (by rfl) ?_; dsimp only)); refine xew 1 ?_; intro Ac w27 Ad Ag hb hg; replace Aa := Zz.mk (Kd.R_below (xkd Aa) hb); replace HB := xst hb; clear hb hg; have AA := xz2 Ad.out; obtain ⟨Ao29, co29, eo29⟩ := Kd.R_slice Aa.out; subst eo29))
 go_ret
 exact ⟨xre, xbl⟩
 }
 obtain rfl := Option.some.inj H
 go_enter Tryd.func7, Tryd.ntmps7
 go_wp2_with (first | ((with_reducible refine xgc (f := 8) rfl ?_); refine xgl 4 Tryd.func8 #[.string (⟨#[47, 97, 37, 50, 70, 98, 47, 99, 46, 120]⟩ : ByteArray)] ?_; (with_reducible refine (bJ (w := _) (hG := xG) (h := A1.out)).mono ?_); rintro e w30 ⟨v185, rfl, ho0, hb⟩; refine ⟨_, rfl, ?_⟩; have Aa := Zz.mk (Kd.R_lower ho0 (aA xbl)); replace HB := xst hb; (try clear hb); (try clear ho0)) | ((with_reducible refine ab (N := 1) rfl ?_); (try (refine al (by rfl) ?_; dsimp only)); refine xew 1 ?_; intro Ac w31 Ad Ag hb hg; replace Aa := Zz.mk (Kd.R_below (xkd Aa) hb); replace HB := xst hb; clear hb hg; have AB := xz2 Ad.out; obtain ⟨Ao33, co33, eo33⟩ := Kd.R_slice Aa.out; subst eo33))
 go_ret
 exact ⟨xre, xbl⟩
 }
 obtain ⟨Aj, Ak⟩ := xqn c2
 obtain rfl := Option.some.inj H
 go_enter Tryd.func7, Tryd.ntmps7
 go_wp2_with (first | ((with_reducible refine xgc (f := 8) rfl ?_); refine xgl 4 Tryd.func8 #[.string (⟨#[47, 97, 37, 50, 70, 98, 47, 99, 46, 120]⟩ : ByteArray)] ?_; (with_reducible refine (bJ (w := _) (hG := xG) (h := A1.out)).mono ?_); rintro e w34 ⟨v185, rfl, ho0, hb⟩; refine ⟨_, rfl, ?_⟩; have Aa := Zz.mk (Kd.R_lower ho0 (aA xbl)); replace HB := xst hb; (try clear hb); (try clear ho0)) | ((with_reducible refine ab (N := 1) rfl ?_); (try (refine al (by rfl) ?_; dsimp only)); refine xew 1 ?_; intro Ac w35 Ad Ag hb hg; replace Aa := Zz.mk (Kd.R_below (xkd Aa) hb); replace HB := xst hb; clear hb hg; have AC := xz2 Ad.out; obtain ⟨Ao37, co37, eo37⟩ := Kd.R_slice Aa.out; subst eo37))
 go_ret
 exact ⟨xre, xbl⟩
def dc : Nat → Int → Int → Option (Int)
  | 0, _, _ => none
  | k + 1, x0, x3 => if x3 < 16 then (if 0 ≤ x3 then (if x0 = (bt (⟨#[48, 49, 50, 51, 52, 53, 54, 55, 56, 57, 65, 66, 67, 68, 69, 70]⟩ : ByteArray) x3) then (some x3) else (if x0 = (bt (⟨#[48, 49, 50, 51, 52, 53, 54, 55, 56, 57, 97, 98, 99, 100, 101, 102]⟩ : ByteArray) x3) then (some x3) else (dc k x0 (wrap64 (x3 + 1))))) else (none)) else (some (-1))
def dp (k : Nat) (a0 : Int) : Option (Int) := dc k a0 0
def cf : Nat → ByteArray → Int → Bool → Option (Int)
  | 0, _, _, _ => none
  | k + 1, x0, x1, x27 => if x27 = true then (some (-1)) else (if 0 ≤ (wrap64 (x1 + 1)) then (if (wrap64 (x1 + 1)) < (x0.size : Int) then ((dp k (bt x0 (wrap64 (x1 + 1)))).bind fun t192 => (if 0 ≤ (wrap64 (x1 + 2)) then (if (wrap64 (x1 + 2)) < (x0.size : Int) then ((dp k (bt x0 (wrap64 (x1 + 2)))).bind fun t193 => (if t192 < 0 then (some (-1)) else (if t193 < 0 then (some (-1)) else (some (wrap64 ((wrap64 (16 * t192)) + t193)))))) else (none)) else (none))) else (none)) else (none))
def dX (k : Nat) (a0 : ByteArray) (a1 : Int) : Option (Int) := if a1 < 0 then (cf k a0 a1 true) else (if a1 ≥ (a0.size : Int) then (cf k a0 a1 true) else (if (wrap64 ((a0.size : Int) - a1)) < 3 then (cf k a0 a1 true) else (if 0 ≤ a1 then (if a1 < (a0.size : Int) then (cf k a0 a1 ((bt a0 a1) != 37)) else (none)) else (none))))
def monikerref02_row_nums : List Int := [0, 127, 0, 0, 1, 194, 223, 128, 191, 2, 224, 224, 160, 191, 3, 225, 236, 128, 191, 3, 237, 237, 128, 159, 3, 238, 239, 128, 191, 3, 240, 240, 144, 191, 4, 241, 243, 128, 191, 4, 244, 244, 128, 143, 4]
def bG (i j : Nat) : Int := monikerref02_row_nums.getD (i * 5 + j) 0
def fm (a0 : Int) : Option (Int × Int × Int × Int × Int) := if 0 ≤ a0 ∧ a0 < 9 then some (bG a0.toNat 0, bG a0.toNat 1, bG a0.toNat 2, bG a0.toNat 3, bG a0.toNat 4) else none
mutual
def cq : Nat → ByteArray → Int → Int → Int → Int → Int → Int → Option (Int)
  | 0, _, _, _, _, _, _, _ => none
  | k + 1, x0, x5, Ab, Ac, Ad, Ae, Aa => if x5 < (x0.size : Int) then (dq k x0 x5 (decide (x5 < Aa)) Ab Ac Ad Ae Aa) else (dq k x0 x5 false Ab Ac Ad Ae Aa)
def dq : Nat → ByteArray → Int → Bool → Int → Int → Int → Int → Int → Option (Int)
  | 0, _, _, _, _, _, _, _, _ => none
  | k + 1, x0, x5, Af, Aa, Ab, Ac, Ad, Ae => if Af = true then (if x5 = 0 then (dr k x0 x5 Aa Ab Aa Ab Ac Ad Ae) else (dr k x0 x5 128 191 Aa Ab Ac Ad Ae)) else (some x5)
def dr : Nat → ByteArray → Int → Int → Int → Int → Int → Int → Int → Int → Option (Int)
  | 0, _, _, _, _, _, _, _, _, _ => none
  | k + 1, x0, x5, x6, x7, Ac, Ad, Aa, Ab, Ae => if x5 = 1 then (if 0 ≤ x5 then (if x5 < (x0.size : Int) then (if (wrap64 (bt x0 x5)) < Aa then (some x5) else (if (wrap64 (bt x0 x5)) > Ab then (some x5) else (cq k x0 (wrap64 (x5 + 1)) Ac Ad Aa Ab Ae))) else (none)) else (none)) else (if 0 ≤ x5 then (if x5 < (x0.size : Int) then (if (wrap64 (bt x0 x5)) < x6 then (some x5) else (if (wrap64 (bt x0 x5)) > x7 then (some x5) else (cq k x0 (wrap64 (x5 + 1)) Ac Ad Aa Ab Ae))) else (none)) else (none))
end
def fd (k : Nat) (a0 : ByteArray) (a1_0 : Int) (a1_1 : Int) (a1_2 : Int) (a1_3 : Int) (a1_4 : Int) : Option (Int) := cq k a0 0 a1_0 a1_1 a1_2 a1_3 a1_4
mutual
def dd : Nat → ByteArray → Int → Option (Int)
  | 0, _, _ => none
  | k + 1, x0, x3 => if (x0.size : Int) = 4 then (if 0 < (x0.size : Int) then (de k x0 (wrap64 ((wrap64 (bt x0 0)) - 240))) else (none)) else (de k x0 x3)
def de : Nat → ByteArray → Int → Option (Int)
  | 0, _, _ => none
  | k + 1, x0, x3 => df k x0 x3 1
def df : Nat → ByteArray → Int → Int → Option (Int)
  | 0, _, _, _ => none
  | k + 1, x0, x3, x4 => if x4 < (x0.size : Int) then (if 0 ≤ x4 then (df k x0 (wrap64 ((wrap64 ((wrap64 (x3 * 64)) + (wrap64 (bt x0 x4)))) - 128)) (wrap64 (x4 + 1))) else (none)) else (some x3)
end
def eZ (k : Nat) (a0 : ByteArray) : Option (Int) := if (a0.size : Int) = 1 then (if 0 < (a0.size : Int) then (some (wrap64 (bt a0 0))) else (none)) else (if 0 < (a0.size : Int) then (if (a0.size : Int) = 3 then (dd k a0 (wrap64 ((wrap64 (bt a0 0)) - 224))) else (dd k a0 (wrap64 ((wrap64 (bt a0 0)) - 192)))) else (none))
def cP : Nat → ByteArray → Int → Int → Option (Int × Int × Bool)
  | 0, _, _, _ => none
  | k + 1, x0, x3, x4 => if x4 < 9 then ((fm x4).bind fun Aa => ((fd k x0 Aa.1 Aa.2.1 Aa.2.2.1 Aa.2.2.2.1 Aa.2.2.2.2).bind fun Ab => (if Ab = Aa.2.2.2.2 then (if 0 ≤ Ab then (if Ab ≤ (x0.size : Int) then ((eZ k (x0.extract 0 (Ab : Int).toNat)).bind fun Ac => (some (Ac, Ab, true))) else (none)) else (none)) else (cP k x0 (mx x3 Ab) (wrap64 (x4 + 1)))))) else (some (0, x3, false))
def eL (k : Nat) (a0 : ByteArray) : Option (Int × Int × Bool) := if a0.toList = ([] : List UInt8) then (some (0, 0, false)) else (cP k a0 1 0)
def dM : Nat → Int → ByteArray → Int → Option (Bool)
  | 0, _, _, _ => none
  | k + 1, x0, x1, x5 => if x5 < (x1.size : Int) then (if 0 ≤ x5 then (if (bt x1 x5) = x0 then (some true) else (dM k x0 x1 (wrap64 (x5 + 1)))) else (none)) else (some false)
def aj (k : Nat) (a0 : Int) (a1 : ByteArray) : Option (Bool) := dM k a0 a1 0
mutual
def cY : Nat → Int → Int → Option (Int)
  | 0, _, _ => none
  | k + 1, x0, x3 => (aj k x0 (⟨#[48, 49, 50, 51, 52, 53, 54, 55, 56, 57]⟩ : ByteArray)).bind fun t205 => (if t205 = true then (cZ k x0 (wrap64 (x3 + 2))) else (cZ k x0 x3))
def cZ : Nat → Int → Int → Option (Int)
  | 0, _, _ => none
  | k + 1, x0, x3 => (aj k x0 (⟨#[45, 46, 95, 126]⟩ : ByteArray)).bind fun t206 => (if t206 = true then (da k x0 (wrap64 (x3 + 4))) else (da k x0 x3))
def da : Nat → Int → Int → Option (Int)
  | 0, _, _ => none
  | k + 1, x0, x3 => (aj k x0 (⟨#[33, 36, 38, 39, 40, 41, 42, 43, 44, 59, 61]⟩ : ByteArray)).bind fun t207 => (if t207 = true then (db k x0 (wrap64 (x3 + 8))) else (db k x0 x3))
def db : Nat → Int → Int → Option (Int)
  | 0, _, _ => none
  | k + 1, x0, x3 => (aj k x0 (⟨#[58, 47, 63, 35, 91, 93, 64]⟩ : ByteArray)).bind fun t208 => (if t208 = true then ((aj k x0 (⟨#[48, 49, 50, 51, 52, 53, 54, 55, 56, 57, 65, 66, 67, 68, 69, 70, 97, 98, 99, 100, 101, 102]⟩ : ByteArray)).bind fun t209 => (if t209 = true then (some (wrap64 ((wrap64 (x3 + 16)) + 32))) else (some (wrap64 (x3 + 16))))) else ((aj k x0 (⟨#[48, 49, 50, 51, 52, 53, 54, 55, 56, 57, 65, 66, 67, 68, 69, 70, 97, 98, 99, 100, 101, 102]⟩ : ByteArray)).bind fun t210 => (if t210 = true then (some (wrap64 (x3 + 32))) else (some x3))))
end
def cp (k : Nat) (a0 : Int) : Option (Int) := (aj k a0 (⟨#[65, 66, 67, 68, 69, 70, 71, 72, 73, 74, 75, 76, 77, 78, 79, 80, 81, 82, 83, 84, 85, 86, 87, 88, 89, 90, 97, 98, 99, 100, 101, 102, 103, 104, 105, 106, 107, 108, 109, 110, 111, 112, 113, 114, 115, 116, 117, 118, 119, 120, 121, 122]⟩ : ByteArray)).bind fun t204 => (if t204 = true then (cY k a0 (0 + 1)) else (cY k a0 0))
def dg : Nat → Int → Int → Bool → ByteArray → ByteArray → ByteArray → ByteArray → ByteArray → ByteArray → ByteArray → ByteArray → Option (Bool)
  | 0, _, _, _, _, _, _, _, _, _, _, _ => none
  | k + 1, x0, x1, Ar, Aa, Ab, Ac, Ad, Ae, Af, Ag, Ah => if Ar = true then (some false) else ((cp k x1).bind fun Ai => (if (Go.bits .and .i64 Ai 15) = 0 then (if 0 ≤ x0 then (if x0 = 0 then ((aj k x1 Aa).bind fun Aj => (some Aj)) else (if x0 = 1 then ((aj k x1 Ab).bind fun Ak => (some Ak)) else (if x0 = 2 then ((aj k x1 Ac).bind fun Al => (some Al)) else (if x0 = 3 then ((aj k x1 Ad).bind fun Am => (some Am)) else (if x0 = 4 then ((aj k x1 Ae).bind fun An => (some An)) else (if x0 = 5 then ((aj k x1 Af).bind fun Ao => (some Ao)) else (if x0 = 6 then ((aj k x1 Ag).bind fun Ap => (some Ap)) else (if x0 = 7 then ((aj k x1 Ah).bind fun Aq => (some Aq)) else (none))))))))) else (none)) else (some true)))
def e4 (k : Nat) (a0 : Int) (a1 : Int) : Option (Bool) := if a0 < 1 then (dg k a0 a1 true (⟨#[]⟩ : ByteArray) (⟨#[58]⟩ : ByteArray) (⟨#[]⟩ : ByteArray) (⟨#[58, 64]⟩ : ByteArray) (⟨#[64]⟩ : ByteArray) (⟨#[58, 64, 47]⟩ : ByteArray) (⟨#[58, 64, 47, 63]⟩ : ByteArray) (⟨#[58, 64, 47, 63]⟩ : ByteArray)) else (dg k a0 a1 (decide (a0 > 7)) (⟨#[]⟩ : ByteArray) (⟨#[58]⟩ : ByteArray) (⟨#[]⟩ : ByteArray) (⟨#[58, 64]⟩ : ByteArray) (⟨#[64]⟩ : ByteArray) (⟨#[58, 64, 47]⟩ : ByteArray) (⟨#[58, 64, 47, 63]⟩ : ByteArray) (⟨#[58, 64, 47, 63]⟩ : ByteArray))
mutual
def ao : Nat → Int → Bool → Option (Bool)
  | 0, _, _ => none
  | k + 1, x0, x25 => if x25 = true then (some true) else (ck k x0 1)
def ck : Nat → Int → Int → Option (Bool)
  | 0, _, _ => none
  | k + 1, x0, x3 => if x3 ≤ 13 then (if x0 ≥ (wrap64 (x3 * 65536)) then (if x0 ≤ (wrap64 ((wrap64 (x3 * 65536)) + 65533)) then (some true) else (ck k x0 (wrap64 (x3 + 1)))) else (ck k x0 (wrap64 (x3 + 1)))) else (if x0 ≥ 921600 then (some (decide (x0 ≤ 983037))) else (some false))
end
def eM (k : Nat) (a0 : Int) : Option (Bool) := if a0 ≥ 160 then (if a0 ≤ 55295 then (ao k a0 true) else (if a0 ≥ 63744 then (if a0 ≤ 64975 then (ao k a0 true) else (if a0 ≥ 65008 then (ao k a0 (decide (a0 ≤ 65519))) else (ao k a0 false))) else (if a0 ≥ 65008 then (ao k a0 (decide (a0 ≤ 65519))) else (ao k a0 false)))) else (if a0 ≥ 63744 then (if a0 ≤ 64975 then (ao k a0 true) else (if a0 ≥ 65008 then (ao k a0 (decide (a0 ≤ 65519))) else (ao k a0 false))) else (if a0 ≥ 65008 then (ao k a0 (decide (a0 ≤ 65519))) else (ao k a0 false)))
def cm : Nat → ByteArray → Int → List ByteArray → Int → Option (List ByteArray)
  | 0, _, _, _, _ => none
  | k + 1, x0, x1, x5, x6 => if x6 < (x0.size : Int) then (if 0 ≤ x6 then (if (bt x0 x6) = x1 then (if x5.length < 8796093022208 then (cm k x0 x1 (x5 ++ [(⟨#[]⟩ : ByteArray)]) (wrap64 (x6 + 1))) else (none)) else (if 0 ≤ (wrap64 ((x5.length : Int) - 1)) then (if (wrap64 ((x5.length : Int) - 1)) < (x5.length : Int) then (if x6 ≤ (wrap64 (x6 + 1)) then (if (wrap64 (x6 + 1)) ≤ (x0.size : Int) then (if (aQ ByteArray.empty x5 (wrap64 ((x5.length : Int) - 1))).size + (x0.extract (x6 : Int).toNat ((wrap64 (x6 + 1)) : Int).toNat).size ≤ 9223372036854775807 then (cm k x0 x1 (x5.set ((wrap64 ((x5.length : Int) - 1)) : Int).toNat ((aQ ByteArray.empty x5 (wrap64 ((x5.length : Int) - 1))) ++ (x0.extract (x6 : Int).toNat ((wrap64 (x6 + 1)) : Int).toNat))) (wrap64 (x6 + 1))) else (none)) else (none)) else (none)) else (none)) else (none))) else (none)) else (some x5)
def e5 (k : Nat) (a0 : ByteArray) (a1 : Int) : Option (List ByteArray) := cm k a0 a1 (([(⟨#[]⟩ : ByteArray)] : List ByteArray)) 0
def dY (a0 : Int) : Option (ByteArray) := if 0 ≤ ((Int.tdiv a0 16) % 256) then (if ((Int.tdiv a0 16) % 256) ≤ ((((Int.tdiv a0 16) % 256) + 1) % 256) then (if ((((Int.tdiv a0 16) % 256) + 1) % 256) ≤ 16 then (if 1 + ((⟨#[48, 49, 50, 51, 52, 53, 54, 55, 56, 57, 65, 66, 67, 68, 69, 70]⟩ : ByteArray).extract (((Int.tdiv a0 16) % 256) : Int).toNat (((((Int.tdiv a0 16) % 256) + 1) % 256) : Int).toNat).size ≤ 9223372036854775807 then (if 0 ≤ (Int.tmod a0 16) then (if (Int.tmod a0 16) ≤ (((Int.tmod a0 16) + 1) % 256) then (if (((Int.tmod a0 16) + 1) % 256) ≤ 16 then (if ((⟨#[37]⟩ : ByteArray) ++ ((⟨#[48, 49, 50, 51, 52, 53, 54, 55, 56, 57, 65, 66, 67, 68, 69, 70]⟩ : ByteArray).extract (((Int.tdiv a0 16) % 256) : Int).toNat (((((Int.tdiv a0 16) % 256) + 1) % 256) : Int).toNat)).size + ((⟨#[48, 49, 50, 51, 52, 53, 54, 55, 56, 57, 65, 66, 67, 68, 69, 70]⟩ : ByteArray).extract ((Int.tmod a0 16) : Int).toNat ((((Int.tmod a0 16) + 1) % 256) : Int).toNat).size ≤ 9223372036854775807 then (some (((⟨#[37]⟩ : ByteArray) ++ ((⟨#[48, 49, 50, 51, 52, 53, 54, 55, 56, 57, 65, 66, 67, 68, 69, 70]⟩ : ByteArray).extract (((Int.tdiv a0 16) % 256) : Int).toNat (((((Int.tdiv a0 16) % 256) + 1) % 256) : Int).toNat)) ++ ((⟨#[48, 49, 50, 51, 52, 53, 54, 55, 56, 57, 65, 66, 67, 68, 69, 70]⟩ : ByteArray).extract ((Int.tmod a0 16) : Int).toNat ((((Int.tmod a0 16) + 1) % 256) : Int).toNat))) else (none)) else (none)) else (none)) else (none)) else (none)) else (none)) else (none)) else (none)
mutual
def bv : Nat → ByteArray → Int → Bool → Bool → ByteArray → Int → Option (ByteArray)
  | 0, _, _, _, _, _, _ => none
  | k + 1, x0, x1, x2, x3, x9, Aa => if Aa < (x0.size : Int) then ((dX k x0 Aa).bind fun Ab => (if Ab < 0 then (if 0 ≤ Aa then (if Aa ≤ (wrap64 (Aa + 1)) then (if (wrap64 (Aa + 1)) ≤ (x0.size : Int) then (if x9.size + (x0.extract (Aa : Int).toNat ((wrap64 (Aa + 1)) : Int).toNat).size ≤ 9223372036854775807 then (bv k x0 x1 x2 x3 (x9 ++ (x0.extract (Aa : Int).toNat ((wrap64 (Aa + 1)) : Int).toNat)) (wrap64 (Aa + 1))) else (none)) else (none)) else (none)) else (none)) else (if x2 = true then (dt k x0 x1 x2 x3 x9 Aa Ab true) else ((cp k ((Ab) % 256)).bind fun Ac => (dt k x0 x1 x2 x3 x9 Aa Ab ((Go.bits .and .i64 Ac x1) != 0)))))) else (some x9)
def dt : Nat → ByteArray → Int → Bool → Bool → ByteArray → Int → Int → Bool → Option (ByteArray)
  | 0, _, _, _, _, _, _, _, _ => none
  | k + 1, x0, x1, x2, x3, x9, Aa, Ad, Ae => if Ae = true then ((some (([(Ad) % 256] : List Int) : List Int)).bind fun Ab => (if x9.size + (strOfNums Ab).size ≤ 9223372036854775807 then (bv k x0 x1 x2 x3 (x9 ++ (strOfNums Ab)) (wrap64 (Aa + 3))) else (none))) else (if x3 = true then ((dY ((Ad) % 256)).bind fun Ac => (if x9.size + Ac.size ≤ 9223372036854775807 then (bv k x0 x1 x2 x3 (x9 ++ Ac) (wrap64 (Aa + 3))) else (none))) else (if 0 ≤ Aa then (if Aa ≤ (wrap64 (Aa + 3)) then (if (wrap64 (Aa + 3)) ≤ (x0.size : Int) then (if x9.size + (x0.extract (Aa : Int).toNat ((wrap64 (Aa + 3)) : Int).toNat).size ≤ 9223372036854775807 then (bv k x0 x1 x2 x3 (x9 ++ (x0.extract (Aa : Int).toNat ((wrap64 (Aa + 3)) : Int).toNat)) (wrap64 (Aa + 3))) else (none)) else (none)) else (none)) else (none)))
end
def fe (k : Nat) (a0 : ByteArray) (a1 : Int) (a2 : Bool) (a3 : Bool) : Option (ByteArray) := bv k a0 a1 a2 a3 (⟨#[]⟩ : ByteArray) 0
mutual
def dh : Nat → ByteArray → Bool → List ByteArray → Option (Bool × List ByteArray)
  | 0, _, _, _ => none
  | k + 1, x0, Aa, Ab => (e5 k x0 47).bind fun Ac => (di k Ac 0 Aa Ab)
def di : Nat → List ByteArray → Int → Bool → List ByteArray → Option (Bool × List ByteArray)
  | 0, _, _, _, _ => none
  | k + 1, x4, x5, Ab, Aa => if x5 < (x4.length : Int) then (if 0 ≤ x5 then ((fe k (aQ ByteArray.empty x4 x5) 0 true false).bind fun Ac => (if Aa.length < 8796093022208 then (di k x4 (wrap64 (x5 + 1)) Ab (Aa ++ [Ac])) else (none))) else (none)) else (some (Ab, Aa))
end
def e6 (k : Nat) (a0 : ByteArray) : Option (Bool × List ByteArray) := (some (([] : List ByteArray) : List ByteArray)).bind fun y247 => (if a0.toList = ([] : List UInt8) then (some (false, y247)) else (if 0 < (a0.size : Int) then (if (bt a0 0) = 47 then (if 1 ≤ (a0.size : Int) then (dh k (a0.extract 1 a0.size) true y247) else (none)) else (dh k a0 false y247)) else (none)))
def aJ : Nat → List ByteArray → List ByteArray → Int → Option (Bool)
  | 0, _, _, _ => none
  | k + 1, x0, x1, x5 => if x5 < (x0.length : Int) then (if 0 ≤ x5 then (if x5 < (x1.length : Int) then (if (aQ ByteArray.empty x0 x5).toList = (aQ ByteArray.empty x1 x5).toList then (aJ k x0 x1 (wrap64 (x5 + 1))) else (some false)) else (none)) else (none)) else (some true)
def bf (k : Nat) (l0 : List ByteArray) (l1 : List ByteArray) : Option (Bool) := if (l0.length : Int) = (l1.length : Int) then (aJ k l0 l1 0) else (some false)
theorem et (k : Nat) (A0 : Option Addr) (c0 : Nat) (l0 : List ByteArray) (A1 : Option Addr) (c1 : Nat) (l1 : List ByteArray) (r : Bool) (w : World) (hr0 : Kd.C Kd.string w A0 l0.length l0) (hc0 : l0.length ≤ c0) (hr1 : Kd.C Kd.string w A1 l1.length l1) (hc1 : l1.length ≤ c1) (h : bf k l0 l1 = some r) :
    Calls Tryd.prog 12 #[.slice A0 l0.length c0, .slice A1 l1.length c1] w fun e w' => e = .returned (.bool r) ∧ Drawn0 w w' := by
 have HR0 := Zz.mk hr0
 have Ap := Zz.mk hc0
 clear hr0 hc0
 have HR1 := Zz.mk hr1
 have Aq := Zz.mk hc1
 clear hr1 hc1
 have H := h
 clear h
 unfold bf at H
 refine xid H ?_ ?_ <;> clear H <;> intro c3 H
 {
 obtain ⟨Af, Ag⟩ := xqe c3
 have Ah : (l0.length == l1.length) = true := by first | simpa using c3 | (simp at c3 ⊢; omega)
 clear c3
 have H' := Zz.mk H
 clear H
 go_enter Tryd.func12, Tryd.ntmps12
 go_wp2
 repeat (go_quiet (fail); try go_wp2)
 go_loopg [5] k (fun kq v5 w' => ∃ Aa, v5 = .int .i64 Aa ∧ Zz (aJ kq l0 l1 Aa = some r) ∧ Zz (kq ≤ k) ∧ Drawn0 w w')
 case atStart => exact ⟨(0), xrr, H', ⟨Nat.le_refl _⟩, xdr⟩
 case round => (
 clear H'
 clear Af Ag Ah
 obtain ⟨Aa, rfl, HA, HK1, ⟨m1, rfl⟩⟩ := hrel
 cases gk with
 | zero => exact absurd HA.out (by simp [aJ])
 | succ k1 => (
 have H := HA.out
 clear HA
 simp only [aJ] at H
 refine xid H ?_ ?_ <;> clear H <;> intro c4 H
 {
 have Ak := xdt c4
 clear c4
 refine xin H ?_; clear H; intro c5 H
 have An := xdt c5
 clear c5
 refine xin H ?_; clear H; intro c6 H
 have Ao := xdt c6
 clear c6
 refine xid H ?_ ?_ <;> clear H <;> intro c7 H
 {
 obtain ⟨Al, Am⟩ := xqe c7
 clear c7
 replace H := xa H
 have p259 : 0 ≤ (Aa : Int) := xod
 have q259 : Aa < (l0.length : Int) := xod
 obtain ⟨Ai, e259, Ad⟩ := Kd.at_string HR0.out Aa p259 q259
 cases e259
 replace p259 := eq_true p259
 replace q259 := eq_true q259
 try (have Ab := q259; simp only [ByteArray.size_extract, Nat.min_self] at Ab)
 have p260 : 0 ≤ (Aa : Int) := xod
 have q260 : Aa < (l1.length : Int) := xod
 obtain ⟨Aj, e260, Ae⟩ := Kd.at_string HR1.out Aa p260 q260
 cases e260
 replace p260 := eq_true p260
 replace q260 := eq_true q260
 try (have Ac := q260; simp only [ByteArray.size_extract, Nat.min_self] at Ac)
 go_wp2
 repeat (go_quiet (fail); try go_wp2)
 go_roundg k1
 case measure => have := HK1.out; omega
 case rel => exact ⟨(wrap64 (Aa + 1)), xrr, H, ⟨by have := HK1.out; omega⟩, xdr⟩
 }
 obtain ⟨Al, Am⟩ := xqn c7
 obtain rfl := Option.some.inj H
 have p259 : 0 ≤ (Aa : Int) := xod
 have q259 : Aa < (l0.length : Int) := xod
 obtain ⟨Ai, e259, Ad⟩ := Kd.at_string HR0.out Aa p259 q259
 cases e259
 replace p259 := eq_true p259
 replace q259 := eq_true q259
 try (have Ab := q259; simp only [ByteArray.size_extract, Nat.min_self] at Ab)
 have p260 : 0 ≤ (Aa : Int) := xod
 have q260 : Aa < (l1.length : Int) := xod
 obtain ⟨Aj, e260, Ae⟩ := Kd.at_string HR1.out Aa p260 q260
 cases e260
 replace p260 := eq_true p260
 replace q260 := eq_true q260
 try (have Ac := q260; simp only [ByteArray.size_extract, Nat.min_self] at Ac)
 go_wp2
 repeat (go_quiet (fail); try go_wp2)
 go_ret
 exact ⟨xrr, xdr⟩
 }
 have Ak := xdf c4
 clear c4
 obtain rfl := Option.some.inj H
 go_wp2
 repeat (go_quiet (fail); try go_wp2)
 go_ret
 exact ⟨xrr, xdr⟩
 )
 )
 }
 obtain ⟨Af, Ag⟩ := xqn c3
 have Ah : (l0.length == l1.length) = false := by first | simpa using c3 | (simp at c3 ⊢; omega)
 obtain rfl := Option.some.inj H
 go_enter Tryd.func12, Tryd.ntmps12
 go_wp2
 repeat (go_quiet (fail); try go_wp2)
 go_ret
 exact ⟨xrr, xdr⟩
def fz (a0_0 : Bool) (l0_1 : List ByteArray) : Option (Bool) := if a0_0 = true then (some (decide ((l0_1.length : Int) > 0))) else (if (l0_1.length : Int) = 0 then (some true) else (if 0 < (l0_1.length : Int) then (some ((aQ ByteArray.empty l0_1 0).toList != ([] : List UInt8))) else (none)))
def ap : Nat → List ByteArray → List ByteArray → Int → Int → Option (Bool)
  | 0, _, _, _, _ => none
  | k + 1, x0, x1, x12, x13 => if x13 < x12 then (if 0 ≤ x13 then (if x13 < (x0.length : Int) then (if x13 < (x1.length : Int) then (if (aQ ByteArray.empty x0 x13).toList = (aQ ByteArray.empty x1 x13).toList then (ap k x0 x1 x12 (wrap64 (x13 + 1))) else (some false)) else (none)) else (none)) else (none)) else (some true)
def aH (k : Nat) (l0 : List ByteArray) (l1 : List ByteArray) : Option (Bool) := if (l0.length : Int) = (l1.length : Int) then (ap k l0 l1 (l0.length : Int) 0) else (some false)
theorem bn (k : Nat) (A0 : Option Addr) (c0 : Nat) (l0 : List ByteArray) (A1 : Option Addr) (c1 : Nat) (l1 : List ByteArray) (r : Bool) (w : World) (hr0 : Kd.C Kd.string w A0 l0.length l0) (hc0 : l0.length ≤ c0) (hr1 : Kd.C Kd.string w A1 l1.length l1) (hc1 : l1.length ≤ c1) (h : aH k l0 l1 = some r) :
    Calls Tryd.prog 33 #[.slice A0 l0.length c0, .slice A1 l1.length c1] w fun e w' => e = .returned (.bool r) ∧ Drawn0 w w' := by
 have HR0 := Zz.mk hr0
 have Aq := Zz.mk hc0
 clear hr0 hc0
 have HR1 := Zz.mk hr1
 have Ar := Zz.mk hc1
 clear hr1 hc1
 have H := h
 clear h
 unfold aH at H
 refine xid H ?_ ?_ <;> clear H <;> intro c3 H
 {
 obtain ⟨Af, Ag⟩ := xqe c3
 have Ah : (l0.length == l1.length) = true := by first | simpa using c3 | (simp at c3 ⊢; omega)
 clear c3
 have H' := Zz.mk H
 clear H
 go_enter Tryd.func33, Tryd.ntmps33
 go_wp2
 repeat (go_quiet (fail); try go_wp2)
 go_loopg [13] k (fun kq v13 w' => ∃ Aa, v13 = .int .i64 Aa ∧ Zz (ap kq l0 l1 (l0.length : Int) Aa = some r) ∧ Zz (kq ≤ k) ∧ Drawn0 w w')
 case atStart => exact ⟨(0), xrr, H', ⟨Nat.le_refl _⟩, xdr⟩
 case round => (
 clear H'
 clear Af Ag Ah
 obtain ⟨Aa, rfl, HA, HK1, ⟨m1, rfl⟩⟩ := hrel
 cases gk with
 | zero => exact absurd HA.out (by simp [ap])
 | succ k1 => (
 have H := HA.out
 clear HA
 simp only [ap] at H
 refine xid H ?_ ?_ <;> clear H <;> intro c4 H
 {
 have Ak := xdt c4
 clear c4
 refine xin H ?_; clear H; intro c5 H
 have An := xdt c5
 clear c5
 refine xin H ?_; clear H; intro c6 H
 have Ao := xdt c6
 clear c6
 refine xin H ?_; clear H; intro c7 H
 have Ap := xdt c7
 clear c7
 refine xid H ?_ ?_ <;> clear H <;> intro c8 H
 {
 obtain ⟨Al, Am⟩ := xqe c8
 clear c8
 replace H := xa H
 have p263 : 0 ≤ (Aa : Int) := xod
 have q263 : Aa < (l0.length : Int) := xod
 obtain ⟨Ai, e263, Ad⟩ := Kd.at_string HR0.out Aa p263 q263
 cases e263
 replace p263 := eq_true p263
 replace q263 := eq_true q263
 try (have Ab := q263; simp only [ByteArray.size_extract, Nat.min_self] at Ab)
 have p264 : 0 ≤ (Aa : Int) := xod
 have q264 : Aa < (l1.length : Int) := xod
 obtain ⟨Aj, e264, Ae⟩ := Kd.at_string HR1.out Aa p264 q264
 cases e264
 replace p264 := eq_true p264
 replace q264 := eq_true q264
 try (have Ac := q264; simp only [ByteArray.size_extract, Nat.min_self] at Ac)
 go_wp2
 repeat (go_quiet (fail); try go_wp2)
 go_roundg k1
 case measure => have := HK1.out; omega
 case rel => exact ⟨(wrap64 (Aa + 1)), xrr, H, ⟨by have := HK1.out; omega⟩, xdr⟩
 }
 obtain ⟨Al, Am⟩ := xqn c8
 obtain rfl := Option.some.inj H
 have p263 : 0 ≤ (Aa : Int) := xod
 have q263 : Aa < (l0.length : Int) := xod
 obtain ⟨Ai, e263, Ad⟩ := Kd.at_string HR0.out Aa p263 q263
 cases e263
 replace p263 := eq_true p263
 replace q263 := eq_true q263
 try (have Ab := q263; simp only [ByteArray.size_extract, Nat.min_self] at Ab)
 have p264 : 0 ≤ (Aa : Int) := xod
 have q264 : Aa < (l1.length : Int) := xod
 obtain ⟨Aj, e264, Ae⟩ := Kd.at_string HR1.out Aa p264 q264
 cases e264
 replace p264 := eq_true p264
 replace q264 := eq_true q264
 try (have Ac := q264; simp only [ByteArray.size_extract, Nat.min_self] at Ac)
 go_wp2
 repeat (go_quiet (fail); try go_wp2)
 go_ret
 exact ⟨xrr, xdr⟩
 }
 have Ak := xdf c4
 clear c4
 obtain rfl := Option.some.inj H
 go_wp2
 repeat (go_quiet (fail); try go_wp2)
 go_ret
 exact ⟨xrr, xdr⟩
 )
 )
 }
 obtain ⟨Af, Ag⟩ := xqn c3
 have Ah : (l0.length == l1.length) = false := by first | simpa using c3 | (simp at c3 ⊢; omega)
 obtain rfl := Option.some.inj H
 go_enter Tryd.func33, Tryd.ntmps33
 go_wp2
 repeat (go_quiet (fail); try go_wp2)
 go_ret
 exact ⟨xrr, xdr⟩
def fy (k : Nat) (a0_0 : Bool) (l0_1 : List ByteArray) (a1_0 : Bool) (l1_1 : List ByteArray) : Option (Bool) := if (a0_0 == a1_0) = true then ((aH k l0_1 l1_1).bind fun t267 => (some t267)) else (some false)
def eC (a0 : Int) : Option (Bool) := if a0 ≥ 57344 then (if a0 ≤ 63743 then (some true) else (if a0 ≥ 983040 then (if a0 ≤ 1048573 then (some true) else (if a0 ≥ 1048576 then (some (decide (a0 ≤ 1114109))) else (some false))) else (if a0 ≥ 1048576 then (some (decide (a0 ≤ 1114109))) else (some false)))) else (if a0 ≥ 983040 then (if a0 ≤ 1048573 then (some true) else (if a0 ≥ 1048576 then (some (decide (a0 ≤ 1114109))) else (some false))) else (if a0 ≥ 1048576 then (some (decide (a0 ≤ 1114109))) else (some false)))
mutual
def dC : Nat → Int → Bool → Int → Bool → Option (Bool)
  | 0, _, _, _, _ => none
  | k + 1, x0, x1, x2, x12 => if x12 = true then ((e4 k x0 ((x2) % 256)).bind fun t221 => (some t221)) else (if x1 = true then (if x0 < 1 then (cE k x0 x2 true) else (cE k x0 x2 (decide (x0 > 7)))) else (cE k x0 x2 true))
def cE : Nat → Int → Int → Bool → Option (Bool)
  | 0, _, _, _ => none
  | k + 1, x0, x2, x26 => if x26 = true then (some false) else ((eM k x2).bind fun t222 => (if t222 = true then (some true) else (if x0 = 6 then ((eC x2).bind fun t223 => (some t223)) else (some false))))
end
def fo (k : Nat) (a0 : Int) (a1 : Bool) (a2 : Int) : Option (Bool) := if a2 ≥ 0 then (dC k a0 a1 a2 (decide (a2 < 128))) else (dC k a0 a1 a2 false)
def dv : Nat → Int → Bool → ByteArray → Int → Bool → Option (Int)
  | 0, _, _, _, _, _ => none
  | k + 1, x0, x1, x2, x3, Ad => if Ad = true then (some 0) else ((dX k x2 x3).bind fun Ab => (if Ab ≥ 0 then (some 3) else (if 0 ≤ x3 then (if x3 ≤ (x2.size : Int) then ((eL k (x2.extract (x3 : Int).toNat x2.size)).bind fun Aa => (if Aa.2.2 = true then ((fo k x0 x1 Aa.1).bind fun Ac => (if Ac = true then (some Aa.2.1) else (some 0))) else (some 0))) else (none)) else (none))))
def dD (k : Nat) (a0 : Int) (a1 : Bool) (a2 : ByteArray) (a3 : Int) : Option (Int) := if a0 < 1 then (dv k a0 a1 a2 a3 true) else (dv k a0 a1 a2 a3 (decide (a0 > 7)))
def du : Nat → Int → Bool → ByteArray → Int → Option (Int)
  | 0, _, _, _, _ => none
  | k + 1, x0, x1, x2, x7 => if x7 < (x2.size : Int) then ((dD k x0 x1 x2 x7).bind fun t230 => (if t230 > 0 then ((dD k x0 x1 x2 x7).bind fun t231 => (du k x0 x1 x2 (wrap64 (x7 + t231)))) else (some x7))) else (some x7)
def ff (k : Nat) (a0 : Int) (a1 : Bool) (a2 : ByteArray) : Option (Int) := du k a0 a1 a2 0
end Go.Proofs.YtmofhijbheimmaaDoor.X
