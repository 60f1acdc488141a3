/- Texts that the law's proof needs, joined by a program of this session. -/
import Derived.Test.YtpmflpeckoeooaaGreatDoorZSyntaxParses1
import Derived.Test.YtpmflpeckoeooaaGreatDoorZSyntaxParses2
import Derived.Laws.RangeString
import Derived.Laws.Strings3
import Derived.Lib.IndexAny
import Derived.Lib.IndexBytes
set_option maxHeartbeats 8000000
set_option maxRecDepth 100000
set_option linter.unusedSimpArgs false
set_option linter.unusedVariables false
namespace Go.Proofs.YtpmflpeckoeooaaGreatDoor.X
open Go.RowKit Go.Proofs.YtpmflpeckoeooaaGreatDoorW.PrintWords Go.Proofs.YtpmflpeckoeooaaGreatDoorW.PrintLast Go.Proofs.YtpmflpeckoeooaaGreatDoorW.PrintMore
attribute [local go_sem] ez ea gJ iY dq ir cv ia ic iU iV gz gA ib ie
mutual
def fv : Nat → List Int → ByteArray → Bool → ByteArray → ByteArray → Bool → ByteArray → Bool → ByteArray → Option (ByteArray)
  | 0, _, _, _, _, _, _, _, _, _ => none
  | k + 1, x3, Ac, Ab, Aa, Ad, Ae, Af, Ag, Ah => if Ab = true then (if x3.length + 2 < 140737488355328 then ((some (x3 ++ aa (⟨#[47, 47]⟩ : ByteArray) : List Int)).bind fun Ai => (if Ai.length + Aa.size < 140737488355328 then (fw k (Ai ++ aa Aa) Ac Ab Aa Ad Ae Af Ag Ah) else (none))) else (none)) else (fw k x3 Ac Ab Aa Ad Ae Af Ag Ah)
def fw : Nat → List Int → ByteArray → Bool → ByteArray → ByteArray → Bool → ByteArray → Bool → ByteArray → Option (ByteArray)
  | 0, _, _, _, _, _, _, _, _, _ => none
  | k + 1, x3, Ak, Al, Am, Ab, Af, Ac, Ad, Aa => if x3.length + Ab.size < 140737488355328 then ((some (x3 ++ aa Ab : List Int)).bind fun Ae => (if Af = true then (if Ae.length < 140737488355328 then ((some (Ae ++ [63] : List Int)).bind fun Ah => (if Ah.length + Ac.size < 140737488355328 then ((some (Ah ++ aa Ac : List Int)).bind fun Ag => (if Ad = true then (if Ag.length < 140737488355328 then ((some (Ag ++ [35] : List Int)).bind fun Ai => (if Ai.length + Aa.size < 140737488355328 then (some (strOfNums (Ai ++ aa Aa))) else (none))) else (none)) else (some (strOfNums Ag)))) else (none))) else (none)) else (if Ad = true then (if Ae.length < 140737488355328 then ((some (Ae ++ [35] : List Int)).bind fun Aj => (if Aj.length + Aa.size < 140737488355328 then (some (strOfNums (Aj ++ aa Aa))) else (none))) else (none)) else (some (strOfNums Ae))))) else (none)
end
def ip (k : Nat) (Aa : ByteArray) (Ab : Bool) (Ac : ByteArray) (Ad : ByteArray) (Ae : Bool) (Af : ByteArray) (Ag : Bool) (Ah : ByteArray) : Option (ByteArray) := if Aa.toList = ([] : List UInt8) then (fv k ([] : List Int) Aa Ab Ac Ad Ae Af Ag Ah) else (if ([] : List Int).length + Aa.size < 140737488355328 then ((some (([] : List Int) ++ aa Aa : List Int)).bind fun Ai => (if Ai.length < 140737488355328 then (fv k (Ai ++ [58]) Aa Ab Ac Ad Ae Af Ag Ah) else (none))) else (none))
theorem mu (k : Nat) (Af : ByteArray) (Ai : Bool) (Ag : ByteArray) (Ae : ByteArray) (Al : Bool) (Ad : ByteArray) (Ak : Bool) (Ac : ByteArray) (r : ByteArray) (w : World) (h : ip k Af Ai Ag Ae Al Ad Ak Ac = some r) :
    Calls Tryz.prog 16 #[.agg #[.string Af, .bool Ai, .string Ag, .string Ae, .bool Al, .string Ad, .bool Ak, .string Ac]] w fun e w' => e = .returned (.string r) ∧ Below w.heap.size w w' := by
 have hu24 := Tryz.underlying24
 have HB := Zz.mk (Below.refl w.heap.size w)
 have H := h
 clear h
 unfold ip at H
 have A8 := Zz.mk H
 clear H
 go_enter Tryz.func16, Tryz.ntmps16
 go_upto_if 6 with (first | ((with_reducible refine aj (N := 1) rfl ?_); refine xew 1 ?_; intro Ab w3 Aa Ba hb hg; replace HB := xst hb; clear hb hg; have Bm := xz8 Aa.out))
 (try simp only [Act.put, xl1, xl2, xl3])
 go_cut [3] (fun v3 wc => ∃ (kq : Nat) (AG : List Int), Zz (fv kq AG Af Ai Ag Ae Al Ad Ak Ac = some r) ∧ Zz (kq ≤ k) ∧ Zz (Kd.R (Kd.int .u8) 5 wc w.heap.size (fun _ => True) v3 AG) ∧ Zz (wc.heap[Ab]? = some (.cells #[.string Af, .bool Ai, .string Ag, .string Ae, .bool Al, .string Ad, .bool Ak, .string Ac] 24 (0, 0))) ∧ Zz (Below w.heap.size w wc))
 case first => (
 have H := A8.out
 clear A8
 refine xid H ?_ ?_ <;> clear H <;> intro c5 H
 {
 obtain ⟨AH, A9⟩ := xqe c5
 (try (have AQ : Af.toList.isEmpty = true := by simpa using c5))
 clear c5
 (first | rw [AH] | (simp only [ag, ak]; rw [AH]) | (rw [AQ]; (try simp only [Bool.not_false, Bool.not_true])) | skip)
 replace H := xa H
 go_wp2
 go_meet
 case rel => exact ⟨_, (([] : List Int)), H, ⟨xom⟩, ⟨by first | exact Kd.R_nil _ _ _ _ _ | exact Kd.N_nil _ _ _ _ _ | exact Kd.V_nil _ _ _ _ _ | exact Kd.Q_nil _ _ _ _ _ | exact Kd.S_nil _ _ _ _ _⟩, ⟨xbk⟩, ⟨xbl⟩⟩
 }
 obtain ⟨AH, A9⟩ := xqn c5
 (try (have AQ : Af.toList.isEmpty = false := by simpa using c5))
 (first | rw [AH] | (simp only [ag, ak]; rw [AH]) | (rw [AQ]; (try simp only [Bool.not_false, Bool.not_true])) | skip)
 refine xin H ?_; clear H; intro c6 H
 have LMc6 := Zz.mk c6
 clear c6
 obtain ⟨AI, As⟩ : ∃ y_ : List Int, y_ = (([] : List Int) ++ aa Af) := ⟨_, rfl⟩
 replace H : (if AI.length < 140737488355328 then (fv k (AI ++ [58]) Af Ai Ag Ae Al Ad Ak Ac) else (none)) = some r := by first | (rw [As]; with_reducible exact H) | (have H2_ := (Option.bind_some _ _).symm.trans H; rw [As]; with_reducible exact H2_) | (have H2_ := (Option.bind_some _ _).symm.trans H; with_reducible exact H2_) | with_reducible exact H | (rw [As]; exact H) | exact H
 have AT := Zz.mk As
 clear As
 refine xin H ?_; clear H; intro c7 H
 have LMc7 := Zz.mk c7
 clear c7
 obtain ⟨AU, At⟩ : ∃ y_ : List Int, y_ = (AI ++ [58]) := ⟨_, rfl⟩
 replace H : (fv k AU Af Ai Ag Ae Al Ad Ak Ac) = some r := by first | (rw [At]; with_reducible exact H) | (have H2_ := (Option.bind_some _ _).symm.trans H; rw [At]; with_reducible exact H2_) | (have H2_ := (Option.bind_some _ _).symm.trans H; with_reducible exact H2_) | with_reducible exact H | (rw [At]; exact H) | exact H
 have AV := Zz.mk At
 clear At
 replace H := xa H
 have Bn := xz8 Aa.out
 go_wp2_with (first | (at_builtin; refine il (w0 := w) w.heap.size rfl (.tmp 7) _ 45 9 5 rfl Tryz.underlying45 Tryz.underlying9 iP (.slice none 0 0) ([] : List Int) Af rfl rfl ?aO ?aB ?aS ?aL ?_; (case aB => exact xbl); (case aO => exact (Kd.own_of_R ((Kd.R_nil (Kd.int .u8) _ _ _ (fun _ => True))))); (case aS => exact (aq xbl)); (case aL => have := LMc6.out; first | omega | exact Nat.le_of_lt this); intro v774 w9 ho0 hb hg; have ho := Kd.R_of_own (h1 := fun _ => rfl) (ok := fun _ => True) ho0 (fun _ _ => trivial); clear ho0; have hat := True.intro; rw [← AT.out] at ho; change Kd.R (Kd.int .u8) 5 w9 w.heap.size (fun _ => True) v774 AI at ho; have AJ := Zz.mk (ho); replace Aa := Zz.mk (b5 (g := Ab) (o := .cells #[.string Af, .bool Ai, .string Ag, .string Ae, .bool Al, .string Ad, .bool Ak, .string Ac] 24 (0, 0)) xbk hg (by simp [Value.ownBlock])); replace HB := Zz.mk (hb); clear ho hb hg hat) | ((with_reducible refine gx (b := .append) (xs := #[.tmp 10, .tmp 11]) rfl ?_); at_builtin; refine Kd.R_append (Kd.int .u8) (w0 := w) w.heap.size rfl (.tmp 10) (.tmp 11) 45 5 (.int .u8 0) 1 rfl Tryz.underlying45 iP rfl (by decide) (by omega) v774 AI 58 [.int .u8 58] (fun _ => True) (fun _ => False) rfl rfl ?aP (fun _ hk => hk.elim) ?aF ?aO ?aB ?aS ?aL ?_; (case aP => exact rfl); (case aB => exact xbl); (case aF => exact (fun _ _ => trivial)); (case aO => exact (xkd AJ)); (case aS => exact (aq xbl)); (case aL => have := LMc7.out; first | omega | exact Nat.le_of_lt this); intro v777 w10 ho hb hg hat; rw [← AV.out] at ho; have n0_ := Zz.mk (b5 (g := Ab) (o := .cells #[.string Af, .bool Ai, .string Ag, .string Ae, .bool Al, .string Ad, .bool Ak, .string Ac] 24 (0, 0)) xbk hg (Kd.R_ne AJ.out Aa.out (by decide))); have n1_ := Zz.mk (hb); have n2_ := Zz.mk (ho); clear Aa; clear HB; clear AJ; have Aa := n0_; have HB := n1_; have AW := n2_; clear n0_ n1_ n2_; clear ho hb hg hat))
 go_meet
 case rel => exact ⟨_, (AU), H, ⟨xom⟩, ⟨xkd AW⟩, ⟨xbk⟩, ⟨xbl⟩⟩
 )
 case rest => (
 clear A8
 obtain ⟨kq, AG, HA, HJ1, Aj, Aa, HB⟩ := hcut
 cases kq with
 | zero => exact absurd HA.out (by simp [fv])
 | succ kj1 => (
 have H := HA.out
 clear HA
 simp only [fv] at H
 have AR := Zz.mk H
 clear H
 have Bb := xz8 Aa.out
 go_upto_if 14 with (fail)
 go_cut [3] (fun v3 wc => ∃ (kq : Nat) (Ap : List Int), Zz (fw kq Ap Af Ai Ag Ae Al Ad Ak Ac = some r) ∧ Zz (kq ≤ kj1) ∧ Zz (Kd.R (Kd.int .u8) 5 wc w.heap.size (fun _ => True) v3 Ap) ∧ Zz (wc.heap[Ab]? = some (.cells #[.string Af, .bool Ai, .string Ag, .string Ae, .bool Al, .string Ad, .bool Ak, .string Ac] 24 (0, 0))) ∧ Zz (Below w.heap.size w wc))
 case first => (
 have H := AR.out
 clear AR
 refine xib H ?_ ?_ <;> clear H <;> rintro rfl H
 {
 refine xin H ?_; clear H; intro c14 H
 have LMc14 := Zz.mk c14
 clear c14
 obtain ⟨AK, Au⟩ : ∃ y_ : List Int, y_ = (AG ++ aa (⟨#[47, 47]⟩ : ByteArray)) := ⟨_, rfl⟩
 replace H : (if AK.length + Ag.size < 140737488355328 then (fw kj1 (AK ++ aa Ag) Af true Ag Ae Al Ad Ak Ac) else (none)) = some r := by first | (rw [Au]; with_reducible exact H) | (have H2_ := (Option.bind_some _ _).symm.trans H; rw [Au]; with_reducible exact H2_) | (have H2_ := (Option.bind_some _ _).symm.trans H; with_reducible exact H2_) | with_reducible exact H | (rw [Au]; exact H) | exact H
 have AX := Zz.mk Au
 clear Au
 refine xin H ?_; clear H; intro c15 H
 have LMc15 := Zz.mk c15
 clear c15
 obtain ⟨AS, Av⟩ : ∃ y_ : List Int, y_ = (AK ++ aa Ag) := ⟨_, rfl⟩
 replace H : (fw kj1 AS Af true Ag Ae Al Ad Ak Ac) = some r := by first | (rw [Av]; with_reducible exact H) | (have H2_ := (Option.bind_some _ _).symm.trans H; rw [Av]; with_reducible exact H2_) | (have H2_ := (Option.bind_some _ _).symm.trans H; with_reducible exact H2_) | with_reducible exact H | (rw [Av]; exact H) | exact H
 have AY := Zz.mk Av
 clear Av
 replace H := xa H
 try go_wp2
 replace Aj := Zz.mk (Kd.R_drew Aj.out)
 replace Aa := Zz.mk (bc Aa.out)
 replace HB := Zz.mk (aA HB.out)
 refine io (n := 6) (S := fun w' => w'.cell? ⟨Ab, 0, none⟩ = some (.string Af) ∧ w'.cell? ⟨Ab, 1, none⟩ = some (.bool true) ∧ w'.cell? ⟨Ab, 2, none⟩ = some (.string Ag) ∧ w'.cell? ⟨Ab, 3, none⟩ = some (.string Ae) ∧ w'.cell? ⟨Ab, 4, none⟩ = some (.bool Al) ∧ w'.cell? ⟨Ab, 5, none⟩ = some (.string Ad) ∧ w'.cell? ⟨Ab, 6, none⟩ = some (.bool Ak) ∧ w'.cell? ⟨Ab, 7, none⟩ = some (.string Ac)) (ds := []) #[false, false, false, false, false, false] (by kernel_rfl) rfl rfl (xs8 Aa.out) (fun hHeld => ?_)
 generalize wc.drew = w16 at Aj Aa HB hHeld ⊢
 refine ct (i := 0) (N := some 15) (v := ?_) (a' := ?_) #[true, false, false, false, false, false] rfl rfl (by kernel_rfl) (fun _ _ _ h => h) (Or.inl ⟨by rfl, ?_⟩) ?_ ?_
 rotate_left
 {
 intro w'
 go_simp
 with_reducible rfl
 }
 rotate_left
 {
 simp only [Act.put, xl1, xl2, xl3, ag, ak]
 rfl
 }
 refine ct (i := 2) (N := some 17) (v := ?_) (a' := ?_) #[true, false, true, false, false, false] rfl rfl (by kernel_rfl) (fun _ _ _ h => h) (Or.inl ⟨by rfl, ?_⟩) ?_ ?_
 rotate_left
 {
 intro w'
 go_simp
 with_reducible rfl
 }
 rotate_left
 {
 simp only [Act.put, xl1, xl2, xl3, ag, ak]
 rfl
 }
 refine take_ (i := 3) (N := some 18) (v := ?_) (a' := ?_) #[true, false, true, true, false, false] rfl rfl (by kernel_rfl) (fun _ _ _ h => h) (Or.inl ⟨by rfl, ?_⟩) hHeld ?_ ?_
 rotate_left
 {
 rintro w' ⟨s0, s1, s2, s3, s4, s5, s6, s7⟩
 go_simp
 with_reducible rfl
 }
 rotate_left
 {
 simp only [Act.put, xl1, xl2, xl3, ag, ak]
 rfl
 }
 refine dm (i := 1) (N := some 16) #[true, true, true, true, false, false] rfl rfl (by kernel_rfl) (by decide) (fun K hK => ?_)
 refine gP (w0 := w) w.heap.size (by rfl) (.tmp 15) _ 45 9 5 rfl Tryz.underlying45 Tryz.underlying9 iP u3 AG (⟨#[47, 47]⟩ : ByteArray) rfl rfl ?aO ?aB ?aS ?aL ?_
 (case aB => exact xbl)
 (case aO => exact (Kd.own_of_R (xkd Aj)))
 (case aS => exact (aq xbl))
 (case aL => have := LMc14.out; first | omega | exact Nat.le_of_lt this)
 intro v780 w17 ho0 hb hg
 have ho := Kd.R_of_own (h1 := fun _ => rfl) (ok := fun _ => True) ho0 (fun _ _ => trivial)
 clear ho0
 have hat := True.intro
 rw [← AX.out] at ho
 change Kd.R (Kd.int .u8) 5 w17 w.heap.size (fun _ => True) v780 AK at ho
 have n0_ := Zz.mk (b5 (g := Ab) (o := .cells #[.string Af, .bool true, .string Ag, .string Ae, .bool Al, .string Ad, .bool Ak, .string Ac] 24 (0, 0)) xbk hg (Kd.R_ne Aj.out Aa.out (by decide)))
 have n1_ := Zz.mk (hb)
 have n2_ := Zz.mk (ho)
 clear Aa
 clear HB
 clear Aj
 have Aa := n0_
 have HB := n1_
 have AL := n2_
 clear n0_ n1_ n2_
 clear ho hb hg hat
 refine hK.out _ _ (xs8 Aa.out) (fun hHeld => ?_)
 clear hK K
 refine bV (a' := ?_) ?_ ?_
 rotate_left
 {
 show Act.put _ (some 16) _ = _
 simp only [Act.put, xl1, xl2, xl3, ag, ak]
 rfl
 }
 refine dm (i := 4) (N := some 19) #[true, true, true, true, true, false] rfl rfl (by kernel_rfl) (by decide) (fun K hK => ?_)
 refine gP (w0 := w) w.heap.size (by rfl) (.tmp 16) _ 45 9 5 rfl Tryz.underlying45 Tryz.underlying9 iP v780 AK Ag rfl rfl ?aO ?aB ?aS ?aL ?_
 (case aB => exact xbl)
 (case aO => exact (Kd.own_of_R (xkd AL)))
 (case aS => exact (aq xbl))
 (case aL => have := LMc15.out; first | omega | exact Nat.le_of_lt this)
 intro v783 w18 ho0 hb hg
 have ho := Kd.R_of_own (h1 := fun _ => rfl) (ok := fun _ => True) ho0 (fun _ _ => trivial)
 clear ho0
 have hat := True.intro
 rw [← AY.out] at ho
 change Kd.R (Kd.int .u8) 5 w18 w.heap.size (fun _ => True) v783 AS at ho
 have n0_ := Zz.mk (b5 (g := Ab) (o := .cells #[.string Af, .bool true, .string Ag, .string Ae, .bool Al, .string Ad, .bool Ak, .string Ac] 24 (0, 0)) xbk hg (Kd.R_ne AL.out Aa.out (by decide)))
 have n1_ := Zz.mk (hb)
 have n2_ := Zz.mk (ho)
 clear Aa
 clear HB
 clear AL
 have Aa := n0_
 have HB := n1_
 have AZ := n2_
 clear n0_ n1_ n2_
 clear ho hb hg hat
 refine hK.out _ _ (xs8 Aa.out) (fun hHeld => ?_)
 clear hK K
 refine bV (a' := ?_) ?_ ?_
 rotate_left
 {
 show Act.put _ (some 19) _ = _
 simp only [Act.put, xl1, xl2, xl3, ag, ak]
 rfl
 }
 refine ct (i := 5) (N := some 3) (v := ?_) (a' := ?_) #[true, true, true, true, true, true] rfl rfl (by kernel_rfl) (fun _ _ _ h => h) (Or.inl ⟨by rfl, ?_⟩) ?_ ?_
 rotate_left
 {
 intro w'
 go_simp
 with_reducible rfl
 }
 rotate_left
 {
 simp only [Act.put, xl1, xl2, xl3, ag, ak]
 rfl
 }
 refine kA (by kernel_rfl) ?_
 try go_wp2
 go_meet
 case rel => exact ⟨_, (AS), H, ⟨xoj HJ1⟩, ⟨xkd AZ⟩, ⟨xbk⟩, ⟨xbl⟩⟩
 }
 replace H := xa H
 go_wp2
 go_meet
 case rel => exact ⟨_, (AG), H, ⟨xoj HJ1⟩, ⟨xkd Aj⟩, ⟨xbk⟩, ⟨xbl⟩⟩
 )
 case rest => (
 clear AR
 obtain ⟨kq, Ap, HA, HJ10, Aj, Aa, HB⟩ := hcut
 cases kq with
 | zero => exact absurd HA.out (by simp [fw])
 | succ kj10 => (
 have H := HA.out
 clear HA
 simp only [fw] at H
 refine xin H ?_; clear H; intro c19 H
 have LMc19 := Zz.mk c19
 clear c19
 obtain ⟨An, Aw⟩ : ∃ y_ : List Int, y_ = (Ap ++ aa Ae) := ⟨_, rfl⟩
 replace H : (if Al = true then (if An.length < 140737488355328 then ((some (An ++ [63] : List Int)).bind fun Ax => (if Ax.length + Ad.size < 140737488355328 then ((some (Ax ++ aa Ad : List Int)).bind fun Am => (if Ak = true then (if Am.length < 140737488355328 then ((some (Am ++ [35] : List Int)).bind fun Ao => (if Ao.length + Ac.size < 140737488355328 then (some (strOfNums (Ao ++ aa Ac))) else (none))) else (none)) else (some (strOfNums Am)))) else (none))) else (none)) else (if Ak = true then (if An.length < 140737488355328 then ((some (An ++ [35] : List Int)).bind fun AE => (if AE.length + Ac.size < 140737488355328 then (some (strOfNums (AE ++ aa Ac))) else (none))) else (none)) else (some (strOfNums An)))) = some r := by first | (rw [Aw]; with_reducible exact H) | (have H2_ := (Option.bind_some _ _).symm.trans H; rw [Aw]; with_reducible exact H2_) | (have H2_ := (Option.bind_some _ _).symm.trans H; with_reducible exact H2_) | with_reducible exact H | (rw [Aw]; exact H) | exact H
 have AF := Zz.mk Aw
 clear Aw
 refine xib H ?_ ?_ <;> clear H <;> rintro rfl H
 {
 refine xin H ?_; clear H; intro c21 H
 have LMc21 := Zz.mk c21
 clear c21
 obtain ⟨Ax, Ay⟩ : ∃ y_ : List Int, y_ = (An ++ [63]) := ⟨_, rfl⟩
 replace H : (if Ax.length + Ad.size < 140737488355328 then ((some (Ax ++ aa Ad : List Int)).bind fun Am => (if Ak = true then (if Am.length < 140737488355328 then ((some (Am ++ [35] : List Int)).bind fun Ao => (if Ao.length + Ac.size < 140737488355328 then (some (strOfNums (Ao ++ aa Ac))) else (none))) else (none)) else (some (strOfNums Am)))) else (none)) = some r := by first | (rw [Ay]; with_reducible exact H) | (have H2_ := (Option.bind_some _ _).symm.trans H; rw [Ay]; with_reducible exact H2_) | (have H2_ := (Option.bind_some _ _).symm.trans H; with_reducible exact H2_) | with_reducible exact H | (rw [Ay]; exact H) | exact H
 have AO := Zz.mk Ay
 clear Ay
 refine xin H ?_; clear H; intro c22 H
 have LMc22 := Zz.mk c22
 clear c22
 obtain ⟨Am, Az⟩ : ∃ y_ : List Int, y_ = (Ax ++ aa Ad) := ⟨_, rfl⟩
 replace H : (if Ak = true then (if Am.length < 140737488355328 then ((some (Am ++ [35] : List Int)).bind fun Ao => (if Ao.length + Ac.size < 140737488355328 then (some (strOfNums (Ao ++ aa Ac))) else (none))) else (none)) else (some (strOfNums Am))) = some r := by first | (rw [Az]; with_reducible exact H) | (have H2_ := (Option.bind_some _ _).symm.trans H; rw [Az]; with_reducible exact H2_) | (have H2_ := (Option.bind_some _ _).symm.trans H; with_reducible exact H2_) | with_reducible exact H | (rw [Az]; exact H) | exact H
 have AP := Zz.mk Az
 clear Az
 refine xib H ?_ ?_ <;> clear H <;> rintro rfl H
 {
 refine xin H ?_; clear H; intro c24 H
 have LMc24 := Zz.mk c24
 clear c24
 obtain ⟨Ao, AA⟩ : ∃ y_ : List Int, y_ = (Am ++ [35]) := ⟨_, rfl⟩
 replace H : (if Ao.length + Ac.size < 140737488355328 then (some (strOfNums (Ao ++ aa Ac))) else (none)) = some r := by first | (rw [AA]; with_reducible exact H) | (have H2_ := (Option.bind_some _ _).symm.trans H; rw [AA]; with_reducible exact H2_) | (have H2_ := (Option.bind_some _ _).symm.trans H; with_reducible exact H2_) | with_reducible exact H | (rw [AA]; exact H) | exact H
 have A0 := Zz.mk AA
 clear AA
 refine xin H ?_; clear H; intro c25 H
 have LMc25 := Zz.mk c25
 clear c25
 obtain ⟨A1, AB⟩ : ∃ y_ : List Int, y_ = (Ao ++ aa Ac) := ⟨_, rfl⟩
 replace H : (some (strOfNums A1)) = some r := by first | (rw [AB]; with_reducible exact H) | (have H2_ := (Option.bind_some _ _).symm.trans H; rw [AB]; with_reducible exact H2_) | (have H2_ := (Option.bind_some _ _).symm.trans H; with_reducible exact H2_) | with_reducible exact H | (rw [AB]; exact H) | exact H
 have A2 := Zz.mk AB
 clear AB
 obtain rfl := Option.some.inj H
 have Bc := xz8 Aa.out
 try go_wp2_with (first | (at_builtin; refine il (w0 := w) w.heap.size rfl (.tmp 20) _ 45 9 5 rfl Tryz.underlying45 Tryz.underlying9 iP u3 Ap Ae rfl rfl ?aO ?aB ?aS ?aL ?_; (case aB => exact xbl); (case aO => exact (Kd.own_of_R (xkd Aj))); (case aS => exact (aq xbl)); (case aL => have := LMc19.out; first | omega | exact Nat.le_of_lt this); intro v786 w27 ho0 hb hg; have ho := Kd.R_of_own (h1 := fun _ => rfl) (ok := fun _ => True) ho0 (fun _ _ => trivial); clear ho0; have hat := True.intro; rw [← AF.out] at ho; change Kd.R (Kd.int .u8) 5 w27 w.heap.size (fun _ => True) v786 An at ho; have n0_ := Zz.mk (b5 (g := Ab) (o := .cells #[.string Af, .bool Ai, .string Ag, .string Ae, .bool true, .string Ad, .bool true, .string Ac] 24 (0, 0)) xbk hg (Kd.R_ne Aj.out Aa.out (by decide))); have n1_ := Zz.mk (hb); have n2_ := Zz.mk (ho); clear Aa; clear HB; clear Aj; have Aa := n0_; have HB := n1_; have Ah := n2_; clear n0_ n1_ n2_; clear ho hb hg hat; have Bd := xz8 Aa.out))
 replace Ah := Zz.mk (Kd.R_drew Ah.out)
 replace Aa := Zz.mk (bc Aa.out)
 replace HB := Zz.mk (aA HB.out)
 refine io (n := 7) (S := fun w' => w'.cell? ⟨Ab, 0, none⟩ = some (.string Af) ∧ w'.cell? ⟨Ab, 1, none⟩ = some (.bool Ai) ∧ w'.cell? ⟨Ab, 2, none⟩ = some (.string Ag) ∧ w'.cell? ⟨Ab, 3, none⟩ = some (.string Ae) ∧ w'.cell? ⟨Ab, 4, none⟩ = some (.bool true) ∧ w'.cell? ⟨Ab, 5, none⟩ = some (.string Ad) ∧ w'.cell? ⟨Ab, 6, none⟩ = some (.bool true) ∧ w'.cell? ⟨Ab, 7, none⟩ = some (.string Ac)) (ds := []) #[false, false, false, false, false, false, false] (by kernel_rfl) rfl rfl (xs8 Aa.out) (fun hHeld => ?_)
 generalize w27.drew = w29 at Ah Aa HB hHeld ⊢
 refine ct (i := 0) (N := some 26) (v := ?_) (a' := ?_) #[true, false, false, false, false, false, false] rfl rfl (by kernel_rfl) (fun _ _ _ h => h) (Or.inl ⟨by rfl, ?_⟩) ?_ ?_
 rotate_left
 {
 intro w'
 go_simp
 with_reducible rfl
 }
 rotate_left
 {
 simp only [Act.put, xl1, xl2, xl3, ag, ak]
 rfl
 }
 refine ct (i := 3) (N := some 29) (v := ?_) (a' := ?_) #[true, false, false, true, false, false, false] rfl rfl (by kernel_rfl) (fun _ _ _ h => h) (Or.inl ⟨by rfl, ?_⟩) ?_ ?_
 rotate_left
 {
 intro w'
 go_simp
 with_reducible rfl
 }
 rotate_left
 {
 simp only [Act.put, xl1, xl2, xl3, ag, ak]
 rfl
 }
 refine take_ (i := 4) (N := some 30) (v := ?_) (a' := ?_) #[true, false, false, true, true, false, false] rfl rfl (by kernel_rfl) (fun _ _ _ h => h) (Or.inl ⟨by rfl, ?_⟩) hHeld ?_ ?_
 rotate_left
 {
 rintro w' ⟨s0, s1, s2, s3, s4, s5, s6, s7⟩
 go_simp
 with_reducible rfl
 }
 rotate_left
 {
 simp only [Act.put, xl1, xl2, xl3, ag, ak]
 rfl
 }
 refine dm (i := 1) (N := some 27) #[true, true, false, true, true, false, false] rfl rfl (by kernel_rfl) (by decide) (fun K hK => ?_)
 refine pM (w1 := ?_) (v := ?_) (by rfl) rfl ?_ ?_
 rotate_left 2
 {
 go_simp
 constructor
 {
 rfl
 }
 {
 rfl
 }
 }
 refine hK.out _ _ ⟨(ao (aY Aa.out _) 0).trans rfl, (ao (aY Aa.out _) 1).trans rfl, (ao (aY Aa.out _) 2).trans rfl, (ao (aY Aa.out _) 3).trans rfl, (ao (aY Aa.out _) 4).trans rfl, (ao (aY Aa.out _) 5).trans rfl, (ao (aY Aa.out _) 6).trans rfl, (ao (aY Aa.out _) 7).trans rfl⟩ (fun hHeld => ?_)
 clear hK K
 refine bV (a' := ?_) ?_ ?_
 rotate_left
 {
 show Act.put _ (some 27) _ = _
 simp only [Act.put, xl1, xl2, xl3, ag, ak]
 rfl
 }
 refine dm (i := 2) (N := some 28) #[true, true, true, true, true, false, false] rfl rfl (by kernel_rfl) (by decide) (fun K hK => ?_)
 refine Kd.R_append_step (Kd.int .u8) (w0 := w) w.heap.size (by rfl) (.tmp 26) (.tmp 27) 45 5 (.int .u8 0) 1 rfl Tryz.underlying45 iP rfl (by decide) (by omega) v786 An 63 [.int .u8 63] (fun _ => True) (fun _ => False) rfl rfl ?aP (fun _ hk => hk.elim) ?aF ?aO ?aB ?aS ?aL ?_
 (case aP => exact rfl)
 (case aB => exact xbl)
 (case aF => exact (fun _ _ => trivial))
 (case aO => exact (xkd Ah))
 (case aS => exact (aq xbl))
 (case aL => have := LMc21.out; first | omega | exact Nat.le_of_lt this)
 intro v789 w30 ho hb hg hat
 rw [← AO.out] at ho
 have n0_ := Zz.mk (b5 (g := Ab) (o := .cells #[.string Af, .bool Ai, .string Ag, .string Ae, .bool true, .string Ad, .bool true, .string Ac] 24 (0, 0)) xbk hg (Kd.R_ne Ah.out Aa.out (by decide)))
 have n1_ := Zz.mk (hb)
 have n2_ := Zz.mk (ho)
 clear Aa
 clear HB
 clear Ah
 have Aa := n0_
 have HB := n1_
 have Ar := n2_
 clear n0_ n1_ n2_
 clear ho hb hg hat
 refine hK.out _ _ (xs8 Aa.out) (fun hHeld => ?_)
 clear hK K
 refine bV (a' := ?_) ?_ ?_
 rotate_left
 {
 show Act.put _ (some 28) _ = _
 simp only [Act.put, xl1, xl2, xl3, ag, ak]
 rfl
 }
 refine dm (i := 5) (N := some 31) #[true, true, true, true, true, true, false] rfl rfl (by kernel_rfl) (by decide) (fun K hK => ?_)
 refine gP (w0 := w) w.heap.size (by rfl) (.tmp 28) _ 45 9 5 rfl Tryz.underlying45 Tryz.underlying9 iP v789 Ax Ad rfl rfl ?aO ?aB ?aS ?aL ?_
 (case aB => exact xbl)
 (case aO => exact (Kd.own_of_R (xkd Ar)))
 (case aS => exact (aq xbl))
 (case aL => have := LMc22.out; first | omega | exact Nat.le_of_lt this)
 intro v792 w31 ho0 hb hg
 have ho := Kd.R_of_own (h1 := fun _ => rfl) (ok := fun _ => True) ho0 (fun _ _ => trivial)
 clear ho0
 have hat := True.intro
 rw [← AP.out] at ho
 change Kd.R (Kd.int .u8) 5 w31 w.heap.size (fun _ => True) v792 Am at ho
 have n0_ := Zz.mk (b5 (g := Ab) (o := .cells #[.string Af, .bool Ai, .string Ag, .string Ae, .bool true, .string Ad, .bool true, .string Ac] 24 (0, 0)) xbk hg (Kd.R_ne Ar.out Aa.out (by decide)))
 have n1_ := Zz.mk (hb)
 have n2_ := Zz.mk (ho)
 clear Aa
 clear HB
 clear Ar
 have Aa := n0_
 have HB := n1_
 have Aq := n2_
 clear n0_ n1_ n2_
 clear ho hb hg hat
 refine hK.out _ _ (xs8 Aa.out) (fun hHeld => ?_)
 clear hK K
 refine bV (a' := ?_) ?_ ?_
 rotate_left
 {
 show Act.put _ (some 31) _ = _
 simp only [Act.put, xl1, xl2, xl3, ag, ak]
 rfl
 }
 refine ct (i := 6) (N := some 3) (v := ?_) (a' := ?_) #[true, true, true, true, true, true, true] rfl rfl (by kernel_rfl) (fun _ _ _ h => h) (Or.inl ⟨by rfl, ?_⟩) ?_ ?_
 rotate_left
 {
 intro w'
 go_simp
 with_reducible rfl
 }
 rotate_left
 {
 simp only [Act.put, xl1, xl2, xl3, ag, ak]
 rfl
 }
 refine kA (by kernel_rfl) ?_
 have Be := xz8 Aa.out
 try go_wp2
 replace Aq := Zz.mk (Kd.R_drew Aq.out)
 replace Aa := Zz.mk (bc Aa.out)
 replace HB := Zz.mk (aA HB.out)
 refine io (n := 7) (S := fun w' => w'.cell? ⟨Ab, 0, none⟩ = some (.string Af) ∧ w'.cell? ⟨Ab, 1, none⟩ = some (.bool Ai) ∧ w'.cell? ⟨Ab, 2, none⟩ = some (.string Ag) ∧ w'.cell? ⟨Ab, 3, none⟩ = some (.string Ae) ∧ w'.cell? ⟨Ab, 4, none⟩ = some (.bool true) ∧ w'.cell? ⟨Ab, 5, none⟩ = some (.string Ad) ∧ w'.cell? ⟨Ab, 6, none⟩ = some (.bool true) ∧ w'.cell? ⟨Ab, 7, none⟩ = some (.string Ac)) (ds := []) #[false, false, false, false, false, false, false] (by kernel_rfl) rfl rfl (xs8 Aa.out) (fun hHeld => ?_)
 generalize w31.drew = w33 at Aq Aa HB hHeld ⊢
 refine ct (i := 0) (N := some 34) (v := ?_) (a' := ?_) #[true, false, false, false, false, false, false] rfl rfl (by kernel_rfl) (fun _ _ _ h => h) (Or.inl ⟨by rfl, ?_⟩) ?_ ?_
 rotate_left
 {
 intro w'
 go_simp
 with_reducible rfl
 }
 rotate_left
 {
 simp only [Act.put, xl1, xl2, xl3, ag, ak]
 rfl
 }
 refine ct (i := 3) (N := some 37) (v := ?_) (a' := ?_) #[true, false, false, true, false, false, false] rfl rfl (by kernel_rfl) (fun _ _ _ h => h) (Or.inl ⟨by rfl, ?_⟩) ?_ ?_
 rotate_left
 {
 intro w'
 go_simp
 with_reducible rfl
 }
 rotate_left
 {
 simp only [Act.put, xl1, xl2, xl3, ag, ak]
 rfl
 }
 refine take_ (i := 4) (N := some 38) (v := ?_) (a' := ?_) #[true, false, false, true, true, false, false] rfl rfl (by kernel_rfl) (fun _ _ _ h => h) (Or.inl ⟨by rfl, ?_⟩) hHeld ?_ ?_
 rotate_left
 {
 rintro w' ⟨s0, s1, s2, s3, s4, s5, s6, s7⟩
 go_simp
 with_reducible rfl
 }
 rotate_left
 {
 simp only [Act.put, xl1, xl2, xl3, ag, ak]
 rfl
 }
 refine dm (i := 1) (N := some 35) #[true, true, false, true, true, false, false] rfl rfl (by kernel_rfl) (by decide) (fun K hK => ?_)
 refine pM (w1 := ?_) (v := ?_) (by rfl) rfl ?_ ?_
 rotate_left 2
 {
 go_simp
 constructor
 {
 rfl
 }
 {
 rfl
 }
 }
 refine hK.out _ _ ⟨(ao (aY Aa.out _) 0).trans rfl, (ao (aY Aa.out _) 1).trans rfl, (ao (aY Aa.out _) 2).trans rfl, (ao (aY Aa.out _) 3).trans rfl, (ao (aY Aa.out _) 4).trans rfl, (ao (aY Aa.out _) 5).trans rfl, (ao (aY Aa.out _) 6).trans rfl, (ao (aY Aa.out _) 7).trans rfl⟩ (fun hHeld => ?_)
 clear hK K
 refine bV (a' := ?_) ?_ ?_
 rotate_left
 {
 show Act.put _ (some 35) _ = _
 simp only [Act.put, xl1, xl2, xl3, ag, ak]
 rfl
 }
 refine dm (i := 2) (N := some 36) #[true, true, true, true, true, false, false] rfl rfl (by kernel_rfl) (by decide) (fun K hK => ?_)
 refine Kd.R_append_step (Kd.int .u8) (w0 := w) w.heap.size (by rfl) (.tmp 34) (.tmp 35) 45 5 (.int .u8 0) 1 rfl Tryz.underlying45 iP rfl (by decide) (by omega) v792 Am 35 [.int .u8 35] (fun _ => True) (fun _ => False) rfl rfl ?aP (fun _ hk => hk.elim) ?aF ?aO ?aB ?aS ?aL ?_
 (case aP => exact rfl)
 (case aB => exact xbl)
 (case aF => exact (fun _ _ => trivial))
 (case aO => exact (xkd Aq))
 (case aS => exact (aq xbl))
 (case aL => have := LMc24.out; first | omega | exact Nat.le_of_lt this)
 intro v795 w34 ho hb hg hat
 rw [← A0.out] at ho
 have n0_ := Zz.mk (b5 (g := Ab) (o := .cells #[.string Af, .bool Ai, .string Ag, .string Ae, .bool true, .string Ad, .bool true, .string Ac] 24 (0, 0)) xbk hg (Kd.R_ne Aq.out Aa.out (by decide)))
 have n1_ := Zz.mk (hb)
 have n2_ := Zz.mk (ho)
 clear Aa
 clear HB
 clear Aq
 have Aa := n0_
 have HB := n1_
 have AM := n2_
 clear n0_ n1_ n2_
 clear ho hb hg hat
 refine hK.out _ _ (xs8 Aa.out) (fun hHeld => ?_)
 clear hK K
 refine bV (a' := ?_) ?_ ?_
 rotate_left
 {
 show Act.put _ (some 36) _ = _
 simp only [Act.put, xl1, xl2, xl3, ag, ak]
 rfl
 }
 refine dm (i := 5) (N := some 39) #[true, true, true, true, true, true, false] rfl rfl (by kernel_rfl) (by decide) (fun K hK => ?_)
 refine gP (w0 := w) w.heap.size (by rfl) (.tmp 36) _ 45 9 5 rfl Tryz.underlying45 Tryz.underlying9 iP v795 Ao Ac rfl rfl ?aO ?aB ?aS ?aL ?_
 (case aB => exact xbl)
 (case aO => exact (Kd.own_of_R (xkd AM)))
 (case aS => exact (aq xbl))
 (case aL => have := LMc25.out; first | omega | exact Nat.le_of_lt this)
 intro v798 w35 ho0 hb hg
 have ho := Kd.R_of_own (h1 := fun _ => rfl) (ok := fun _ => True) ho0 (fun _ _ => trivial)
 clear ho0
 have hat := True.intro
 rw [← A2.out] at ho
 change Kd.R (Kd.int .u8) 5 w35 w.heap.size (fun _ => True) v798 A1 at ho
 have n0_ := Zz.mk (b5 (g := Ab) (o := .cells #[.string Af, .bool Ai, .string Ag, .string Ae, .bool true, .string Ad, .bool true, .string Ac] 24 (0, 0)) xbk hg (Kd.R_ne AM.out Aa.out (by decide)))
 have n1_ := Zz.mk (hb)
 have n2_ := Zz.mk (ho)
 clear Aa
 clear HB
 clear AM
 have Aa := n0_
 have HB := n1_
 have A3 := n2_
 clear n0_ n1_ n2_
 clear ho hb hg hat
 refine hK.out _ _ (xs8 Aa.out) (fun hHeld => ?_)
 clear hK K
 refine bV (a' := ?_) ?_ ?_
 rotate_left
 {
 show Act.put _ (some 39) _ = _
 simp only [Act.put, xl1, xl2, xl3, ag, ak]
 rfl
 }
 refine ct (i := 6) (N := some 3) (v := ?_) (a' := ?_) #[true, true, true, true, true, true, true] rfl rfl (by kernel_rfl) (fun _ _ _ h => h) (Or.inl ⟨by rfl, ?_⟩) ?_ ?_
 rotate_left
 {
 intro w'
 go_simp
 with_reducible rfl
 }
 rotate_left
 {
 simp only [Act.put, xl1, xl2, xl3, ag, ak]
 rfl
 }
 refine kA (by kernel_rfl) ?_
 have hcv36 := kG (P := Tryz.prog) Tryz.underlying45 Tryz.underlying5 Tryz.underlying9 (Kd.own_of_R A3.out)
 try go_wp2
 go_ret
 exact ⟨xre, xbl⟩
 }
 obtain rfl := Option.some.inj H
 have Bf := xz8 Aa.out
 try go_wp2_with (first | (at_builtin; refine il (w0 := w) w.heap.size rfl (.tmp 20) _ 45 9 5 rfl Tryz.underlying45 Tryz.underlying9 iP u3 Ap Ae rfl rfl ?aO ?aB ?aS ?aL ?_; (case aB => exact xbl); (case aO => exact (Kd.own_of_R (xkd Aj))); (case aS => exact (aq xbl)); (case aL => have := LMc19.out; first | omega | exact Nat.le_of_lt this); intro v786 w38 ho0 hb hg; have ho := Kd.R_of_own (h1 := fun _ => rfl) (ok := fun _ => True) ho0 (fun _ _ => trivial); clear ho0; have hat := True.intro; rw [← AF.out] at ho; change Kd.R (Kd.int .u8) 5 w38 w.heap.size (fun _ => True) v786 An at ho; have n0_ := Zz.mk (b5 (g := Ab) (o := .cells #[.string Af, .bool Ai, .string Ag, .string Ae, .bool true, .string Ad, .bool false, .string Ac] 24 (0, 0)) xbk hg (Kd.R_ne Aj.out Aa.out (by decide))); have n1_ := Zz.mk (hb); have n2_ := Zz.mk (ho); clear Aa; clear HB; clear Aj; have Aa := n0_; have HB := n1_; have Ah := n2_; clear n0_ n1_ n2_; clear ho hb hg hat; have Bg := xz8 Aa.out))
 replace Ah := Zz.mk (Kd.R_drew Ah.out)
 replace Aa := Zz.mk (bc Aa.out)
 replace HB := Zz.mk (aA HB.out)
 refine io (n := 7) (S := fun w' => w'.cell? ⟨Ab, 0, none⟩ = some (.string Af) ∧ w'.cell? ⟨Ab, 1, none⟩ = some (.bool Ai) ∧ w'.cell? ⟨Ab, 2, none⟩ = some (.string Ag) ∧ w'.cell? ⟨Ab, 3, none⟩ = some (.string Ae) ∧ w'.cell? ⟨Ab, 4, none⟩ = some (.bool true) ∧ w'.cell? ⟨Ab, 5, none⟩ = some (.string Ad) ∧ w'.cell? ⟨Ab, 6, none⟩ = some (.bool false) ∧ w'.cell? ⟨Ab, 7, none⟩ = some (.string Ac)) (ds := []) #[false, false, false, false, false, false, false] (by kernel_rfl) rfl rfl (xs8 Aa.out) (fun hHeld => ?_)
 generalize w38.drew = w40 at Ah Aa HB hHeld ⊢
 refine ct (i := 0) (N := some 26) (v := ?_) (a' := ?_) #[true, false, false, false, false, false, false] rfl rfl (by kernel_rfl) (fun _ _ _ h => h) (Or.inl ⟨by rfl, ?_⟩) ?_ ?_
 rotate_left
 {
 intro w'
 go_simp
 with_reducible rfl
 }
 rotate_left
 {
 simp only [Act.put, xl1, xl2, xl3, ag, ak]
 rfl
 }
 refine ct (i := 3) (N := some 29) (v := ?_) (a' := ?_) #[true, false, false, true, false, false, false] rfl rfl (by kernel_rfl) (fun _ _ _ h => h) (Or.inl ⟨by rfl, ?_⟩) ?_ ?_
 rotate_left
 {
 intro w'
 go_simp
 with_reducible rfl
 }
 rotate_left
 {
 simp only [Act.put, xl1, xl2, xl3, ag, ak]
 rfl
 }
 refine take_ (i := 4) (N := some 30) (v := ?_) (a' := ?_) #[true, false, false, true, true, false, false] rfl rfl (by kernel_rfl) (fun _ _ _ h => h) (Or.inl ⟨by rfl, ?_⟩) hHeld ?_ ?_
 rotate_left
 {
 rintro w' ⟨s0, s1, s2, s3, s4, s5, s6, s7⟩
 go_simp
 with_reducible rfl
 }
 rotate_left
 {
 simp only [Act.put, xl1, xl2, xl3, ag, ak]
 rfl
 }
 refine dm (i := 1) (N := some 27) #[true, true, false, true, true, false, false] rfl rfl (by kernel_rfl) (by decide) (fun K hK => ?_)
 refine pM (w1 := ?_) (v := ?_) (by rfl) rfl ?_ ?_
 rotate_left 2
 {
 go_simp
 constructor
 {
 rfl
 }
 {
 rfl
 }
 }
 refine hK.out _ _ ⟨(ao (aY Aa.out _) 0).trans rfl, (ao (aY Aa.out _) 1).trans rfl, (ao (aY Aa.out _) 2).trans rfl, (ao (aY Aa.out _) 3).trans rfl, (ao (aY Aa.out _) 4).trans rfl, (ao (aY Aa.out _) 5).trans rfl, (ao (aY Aa.out _) 6).trans rfl, (ao (aY Aa.out _) 7).trans rfl⟩ (fun hHeld => ?_)
 clear hK K
 refine bV (a' := ?_) ?_ ?_
 rotate_left
 {
 show Act.put _ (some 27) _ = _
 simp only [Act.put, xl1, xl2, xl3, ag, ak]
 rfl
 }
 refine dm (i := 2) (N := some 28) #[true, true, true, true, true, false, false] rfl rfl (by kernel_rfl) (by decide) (fun K hK => ?_)
 refine Kd.R_append_step (Kd.int .u8) (w0 := w) w.heap.size (by rfl) (.tmp 26) (.tmp 27) 45 5 (.int .u8 0) 1 rfl Tryz.underlying45 iP rfl (by decide) (by omega) v786 An 63 [.int .u8 63] (fun _ => True) (fun _ => False) rfl rfl ?aP (fun _ hk => hk.elim) ?aF ?aO ?aB ?aS ?aL ?_
 (case aP => exact rfl)
 (case aB => exact xbl)
 (case aF => exact (fun _ _ => trivial))
 (case aO => exact (xkd Ah))
 (case aS => exact (aq xbl))
 (case aL => have := LMc21.out; first | omega | exact Nat.le_of_lt this)
 intro v789 w41 ho hb hg hat
 rw [← AO.out] at ho
 have n0_ := Zz.mk (b5 (g := Ab) (o := .cells #[.string Af, .bool Ai, .string Ag, .string Ae, .bool true, .string Ad, .bool false, .string Ac] 24 (0, 0)) xbk hg (Kd.R_ne Ah.out Aa.out (by decide)))
 have n1_ := Zz.mk (hb)
 have n2_ := Zz.mk (ho)
 clear Aa
 clear HB
 clear Ah
 have Aa := n0_
 have HB := n1_
 have Ar := n2_
 clear n0_ n1_ n2_
 clear ho hb hg hat
 refine hK.out _ _ (xs8 Aa.out) (fun hHeld => ?_)
 clear hK K
 refine bV (a' := ?_) ?_ ?_
 rotate_left
 {
 show Act.put _ (some 28) _ = _
 simp only [Act.put, xl1, xl2, xl3, ag, ak]
 rfl
 }
 refine dm (i := 5) (N := some 31) #[true, true, true, true, true, true, false] rfl rfl (by kernel_rfl) (by decide) (fun K hK => ?_)
 refine gP (w0 := w) w.heap.size (by rfl) (.tmp 28) _ 45 9 5 rfl Tryz.underlying45 Tryz.underlying9 iP v789 Ax Ad rfl rfl ?aO ?aB ?aS ?aL ?_
 (case aB => exact xbl)
 (case aO => exact (Kd.own_of_R (xkd Ar)))
 (case aS => exact (aq xbl))
 (case aL => have := LMc22.out; first | omega | exact Nat.le_of_lt this)
 intro v792 w42 ho0 hb hg
 have ho := Kd.R_of_own (h1 := fun _ => rfl) (ok := fun _ => True) ho0 (fun _ _ => trivial)
 clear ho0
 have hat := True.intro
 rw [← AP.out] at ho
 change Kd.R (Kd.int .u8) 5 w42 w.heap.size (fun _ => True) v792 Am at ho
 have n0_ := Zz.mk (b5 (g := Ab) (o := .cells #[.string Af, .bool Ai, .string Ag, .string Ae, .bool true, .string Ad, .bool false, .string Ac] 24 (0, 0)) xbk hg (Kd.R_ne Ar.out Aa.out (by decide)))
 have n1_ := Zz.mk (hb)
 have n2_ := Zz.mk (ho)
 clear Aa
 clear HB
 clear Ar
 have Aa := n0_
 have HB := n1_
 have Aq := n2_
 clear n0_ n1_ n2_
 clear ho hb hg hat
 refine hK.out _ _ (xs8 Aa.out) (fun hHeld => ?_)
 clear hK K
 refine bV (a' := ?_) ?_ ?_
 rotate_left
 {
 show Act.put _ (some 31) _ = _
 simp only [Act.put, xl1, xl2, xl3, ag, ak]
 rfl
 }
 refine ct (i := 6) (N := some 3) (v := ?_) (a' := ?_) #[true, true, true, true, true, true, true] rfl rfl (by kernel_rfl) (fun _ _ _ h => h) (Or.inl ⟨by rfl, ?_⟩) ?_ ?_
 rotate_left
 {
 intro w'
 go_simp
 with_reducible rfl
 }
 rotate_left
 {
 simp only [Act.put, xl1, xl2, xl3, ag, ak]
 rfl
 }
 refine kA (by kernel_rfl) ?_
 have Bh := xz8 Aa.out
 have hcv44 := kG (P := Tryz.prog) Tryz.underlying45 Tryz.underlying5 Tryz.underlying9 (Kd.own_of_R Aq.out)
 try go_wp2
 go_ret
 exact ⟨xre, xbl⟩
 }
 refine xib H ?_ ?_ <;> clear H <;> rintro rfl H
 {
 refine xin H ?_; clear H; intro c46 H
 have LMc46 := Zz.mk c46
 clear c46
 obtain ⟨AE, AC⟩ : ∃ y_ : List Int, y_ = (An ++ [35]) := ⟨_, rfl⟩
 replace H : (if AE.length + Ac.size < 140737488355328 then (some (strOfNums (AE ++ aa Ac))) else (none)) = some r := by first | (rw [AC]; with_reducible exact H) | (have H2_ := (Option.bind_some _ _).symm.trans H; rw [AC]; with_reducible exact H2_) | (have H2_ := (Option.bind_some _ _).symm.trans H; with_reducible exact H2_) | with_reducible exact H | (rw [AC]; exact H) | exact H
 have A4 := Zz.mk AC
 clear AC
 refine xin H ?_; clear H; intro c47 H
 have LMc47 := Zz.mk c47
 clear c47
 obtain ⟨A5, AD⟩ : ∃ y_ : List Int, y_ = (AE ++ aa Ac) := ⟨_, rfl⟩
 replace H : (some (strOfNums A5)) = some r := by first | (rw [AD]; with_reducible exact H) | (have H2_ := (Option.bind_some _ _).symm.trans H; rw [AD]; with_reducible exact H2_) | (have H2_ := (Option.bind_some _ _).symm.trans H; with_reducible exact H2_) | with_reducible exact H | (rw [AD]; exact H) | exact H
 have A6 := Zz.mk AD
 clear AD
 obtain rfl := Option.some.inj H
 have Bi := xz8 Aa.out
 try go_wp2_with (first | (at_builtin; refine il (w0 := w) w.heap.size rfl (.tmp 20) _ 45 9 5 rfl Tryz.underlying45 Tryz.underlying9 iP u3 Ap Ae rfl rfl ?aO ?aB ?aS ?aL ?_; (case aB => exact xbl); (case aO => exact (Kd.own_of_R (xkd Aj))); (case aS => exact (aq xbl)); (case aL => have := LMc19.out; first | omega | exact Nat.le_of_lt this); intro v786 w49 ho0 hb hg; have ho := Kd.R_of_own (h1 := fun _ => rfl) (ok := fun _ => True) ho0 (fun _ _ => trivial); clear ho0; have hat := True.intro; rw [← AF.out] at ho; change Kd.R (Kd.int .u8) 5 w49 w.heap.size (fun _ => True) v786 An at ho; have n0_ := Zz.mk (b5 (g := Ab) (o := .cells #[.string Af, .bool Ai, .string Ag, .string Ae, .bool false, .string Ad, .bool true, .string Ac] 24 (0, 0)) xbk hg (Kd.R_ne Aj.out Aa.out (by decide))); have n1_ := Zz.mk (hb); have n2_ := Zz.mk (ho); clear Aa; clear HB; clear Aj; have Aa := n0_; have HB := n1_; have Ah := n2_; clear n0_ n1_ n2_; clear ho hb hg hat; have Bj := xz8 Aa.out))
 replace Ah := Zz.mk (Kd.R_drew Ah.out)
 replace Aa := Zz.mk (bc Aa.out)
 replace HB := Zz.mk (aA HB.out)
 refine io (n := 7) (S := fun w' => w'.cell? ⟨Ab, 0, none⟩ = some (.string Af) ∧ w'.cell? ⟨Ab, 1, none⟩ = some (.bool Ai) ∧ w'.cell? ⟨Ab, 2, none⟩ = some (.string Ag) ∧ w'.cell? ⟨Ab, 3, none⟩ = some (.string Ae) ∧ w'.cell? ⟨Ab, 4, none⟩ = some (.bool false) ∧ w'.cell? ⟨Ab, 5, none⟩ = some (.string Ad) ∧ w'.cell? ⟨Ab, 6, none⟩ = some (.bool true) ∧ w'.cell? ⟨Ab, 7, none⟩ = some (.string Ac)) (ds := []) #[false, false, false, false, false, false, false] (by kernel_rfl) rfl rfl (xs8 Aa.out) (fun hHeld => ?_)
 generalize w49.drew = w51 at Ah Aa HB hHeld ⊢
 refine ct (i := 0) (N := some 34) (v := ?_) (a' := ?_) #[true, false, false, false, false, false, false] rfl rfl (by kernel_rfl) (fun _ _ _ h => h) (Or.inl ⟨by rfl, ?_⟩) ?_ ?_
 rotate_left
 {
 intro w'
 go_simp
 with_reducible rfl
 }
 rotate_left
 {
 simp only [Act.put, xl1, xl2, xl3, ag, ak]
 rfl
 }
 refine ct (i := 3) (N := some 37) (v := ?_) (a' := ?_) #[true, false, false, true, false, false, false] rfl rfl (by kernel_rfl) (fun _ _ _ h => h) (Or.inl ⟨by rfl, ?_⟩) ?_ ?_
 rotate_left
 {
 intro w'
 go_simp
 with_reducible rfl
 }
 rotate_left
 {
 simp only [Act.put, xl1, xl2, xl3, ag, ak]
 rfl
 }
 refine take_ (i := 4) (N := some 38) (v := ?_) (a' := ?_) #[true, false, false, true, true, false, false] rfl rfl (by kernel_rfl) (fun _ _ _ h => h) (Or.inl ⟨by rfl, ?_⟩) hHeld ?_ ?_
 rotate_left
 {
 rintro w' ⟨s0, s1, s2, s3, s4, s5, s6, s7⟩
 go_simp
 with_reducible rfl
 }
 rotate_left
 {
 simp only [Act.put, xl1, xl2, xl3, ag, ak]
 rfl
 }
 refine dm (i := 1) (N := some 35) #[true, true, false, true, true, false, false] rfl rfl (by kernel_rfl) (by decide) (fun K hK => ?_)
 refine pM (w1 := ?_) (v := ?_) (by rfl) rfl ?_ ?_
 rotate_left 2
 {
 go_simp
 constructor
 {
 rfl
 }
 {
 rfl
 }
 }
 refine hK.out _ _ ⟨(ao (aY Aa.out _) 0).trans rfl, (ao (aY Aa.out _) 1).trans rfl, (ao (aY Aa.out _) 2).trans rfl, (ao (aY Aa.out _) 3).trans rfl, (ao (aY Aa.out _) 4).trans rfl, (ao (aY Aa.out _) 5).trans rfl, (ao (aY Aa.out _) 6).trans rfl, (ao (aY Aa.out _) 7).trans rfl⟩ (fun hHeld => ?_)
 clear hK K
 refine bV (a' := ?_) ?_ ?_
 rotate_left
 {
 show Act.put _ (some 35) _ = _
 simp only [Act.put, xl1, xl2, xl3, ag, ak]
 rfl
 }
 refine dm (i := 2) (N := some 36) #[true, true, true, true, true, false, false] rfl rfl (by kernel_rfl) (by decide) (fun K hK => ?_)
 refine Kd.R_append_step (Kd.int .u8) (w0 := w) w.heap.size (by rfl) (.tmp 34) (.tmp 35) 45 5 (.int .u8 0) 1 rfl Tryz.underlying45 iP rfl (by decide) (by omega) v786 An 35 [.int .u8 35] (fun _ => True) (fun _ => False) rfl rfl ?aP (fun _ hk => hk.elim) ?aF ?aO ?aB ?aS ?aL ?_
 (case aP => exact rfl)
 (case aB => exact xbl)
 (case aF => exact (fun _ _ => trivial))
 (case aO => exact (xkd Ah))
 (case aS => exact (aq xbl))
 (case aL => have := LMc46.out; first | omega | exact Nat.le_of_lt this)
 intro v801 w52 ho hb hg hat
 rw [← A4.out] at ho
 have n0_ := Zz.mk (b5 (g := Ab) (o := .cells #[.string Af, .bool Ai, .string Ag, .string Ae, .bool false, .string Ad, .bool true, .string Ac] 24 (0, 0)) xbk hg (Kd.R_ne Ah.out Aa.out (by decide)))
 have n1_ := Zz.mk (hb)
 have n2_ := Zz.mk (ho)
 clear Aa
 clear HB
 clear Ah
 have Aa := n0_
 have HB := n1_
 have AN := n2_
 clear n0_ n1_ n2_
 clear ho hb hg hat
 refine hK.out _ _ (xs8 Aa.out) (fun hHeld => ?_)
 clear hK K
 refine bV (a' := ?_) ?_ ?_
 rotate_left
 {
 show Act.put _ (some 36) _ = _
 simp only [Act.put, xl1, xl2, xl3, ag, ak]
 rfl
 }
 refine dm (i := 5) (N := some 39) #[true, true, true, true, true, true, false] rfl rfl (by kernel_rfl) (by decide) (fun K hK => ?_)
 refine gP (w0 := w) w.heap.size (by rfl) (.tmp 36) _ 45 9 5 rfl Tryz.underlying45 Tryz.underlying9 iP v801 AE Ac rfl rfl ?aO ?aB ?aS ?aL ?_
 (case aB => exact xbl)
 (case aO => exact (Kd.own_of_R (xkd AN)))
 (case aS => exact (aq xbl))
 (case aL => have := LMc47.out; first | omega | exact Nat.le_of_lt this)
 intro v804 w53 ho0 hb hg
 have ho := Kd.R_of_own (h1 := fun _ => rfl) (ok := fun _ => True) ho0 (fun _ _ => trivial)
 clear ho0
 have hat := True.intro
 rw [← A6.out] at ho
 change Kd.R (Kd.int .u8) 5 w53 w.heap.size (fun _ => True) v804 A5 at ho
 have n0_ := Zz.mk (b5 (g := Ab) (o := .cells #[.string Af, .bool Ai, .string Ag, .string Ae, .bool false, .string Ad, .bool true, .string Ac] 24 (0, 0)) xbk hg (Kd.R_ne AN.out Aa.out (by decide)))
 have n1_ := Zz.mk (hb)
 have n2_ := Zz.mk (ho)
 clear Aa
 clear HB
 clear AN
 have Aa := n0_
 have HB := n1_
 have A7 := n2_
 clear n0_ n1_ n2_
 clear ho hb hg hat
 refine hK.out _ _ (xs8 Aa.out) (fun hHeld => ?_)
 clear hK K
 refine bV (a' := ?_) ?_ ?_
 rotate_left
 {
 show Act.put _ (some 39) _ = _
 simp only [Act.put, xl1, xl2, xl3, ag, ak]
 rfl
 }
 refine ct (i := 6) (N := some 3) (v := ?_) (a' := ?_) #[true, true, true, true, true, true, true] rfl rfl (by kernel_rfl) (fun _ _ _ h => h) (Or.inl ⟨by rfl, ?_⟩) ?_ ?_
 rotate_left
 {
 intro w'
 go_simp
 with_reducible rfl
 }
 rotate_left
 {
 simp only [Act.put, xl1, xl2, xl3, ag, ak]
 rfl
 }
 refine kA (by kernel_rfl) ?_
 have hcv54 := kG (P := Tryz.prog) Tryz.underlying45 Tryz.underlying5 Tryz.underlying9 (Kd.own_of_R A7.out)
 try go_wp2
 go_ret
 exact ⟨xre, xbl⟩
 }
 obtain rfl := Option.some.inj H
 have Bk := xz8 Aa.out
 go_wp2_with (first | (at_builtin; refine il (w0 := w) w.heap.size rfl (.tmp 20) _ 45 9 5 rfl Tryz.underlying45 Tryz.underlying9 iP u3 Ap Ae rfl rfl ?aO ?aB ?aS ?aL ?_; (case aB => exact xbl); (case aO => exact (Kd.own_of_R (xkd Aj))); (case aS => exact (aq xbl)); (case aL => have := LMc19.out; first | omega | exact Nat.le_of_lt this); intro v786 w56 ho0 hb hg; have ho := Kd.R_of_own (h1 := fun _ => rfl) (ok := fun _ => True) ho0 (fun _ _ => trivial); clear ho0; have hat := True.intro; rw [← AF.out] at ho; change Kd.R (Kd.int .u8) 5 w56 w.heap.size (fun _ => True) v786 An at ho; have n0_ := Zz.mk (b5 (g := Ab) (o := .cells #[.string Af, .bool Ai, .string Ag, .string Ae, .bool false, .string Ad, .bool false, .string Ac] 24 (0, 0)) xbk hg (Kd.R_ne Aj.out Aa.out (by decide))); have n1_ := Zz.mk (hb); have n2_ := Zz.mk (ho); clear Aa; clear HB; clear Aj; have Aa := n0_; have HB := n1_; have Ah := n2_; clear n0_ n1_ n2_; clear ho hb hg hat; have Bl := xz8 Aa.out; have hcv58 := kG (P := Tryz.prog) Tryz.underlying45 Tryz.underlying5 Tryz.underlying9 (Kd.own_of_R Ah.out)))
 go_ret
 exact ⟨xre, xbl⟩
 )
 )
 )
 )
theorem zf (r : Int) (h : 128 ≤ r) : ∃ n : Nat, (Utf8.encode r).size = n + 1 ∧ 1 ≤ n ∧ n ≤ 3 ∧ 128 ≤ bt (Utf8.encode r) (n : Int) := by
  unfold Utf8.encode
  dsimp only
  have hc : 128 ≤ (if Utf8.valid r = true then r.toNat else Utf8.runeError) := by
    split
    · omega
    · decide
  generalize (if Utf8.valid r = true then r.toNat else Utf8.runeError) = c at hc
  have hb : ∀ x : Nat, 128 ≤ (((UInt8.ofNat (128 + x % 64)).toNat : Nat) : Int) := by
    intro x
    have e : (UInt8.ofNat (128 + x % 64)).toNat = 128 + x % 64 := by
      rw [UInt8.toNat_ofNat']; omega
    omega
  rw [if_neg (by omega)]
  split
  · exact ⟨1, rfl, by omega, by omega, hb _⟩
  · split
    · exact ⟨2, rfl, by omega, by omega, hb _⟩
    · exact ⟨3, rfl, by omega, by omega, hb _⟩
theorem zn {l : List UInt8} {c : UInt8} (h : ∀ b ∈ l, b ≠ c) : Go.Lib.indexByte l c = -1 := by
  induction l with
  | nil => rfl
  | cons a t ih =>
    have h1 : (a == c) = false := by simpa using h a (List.mem_cons_self ..)
    rw [Go.Lib.indexByte, h1, ih (fun b hb => h b (List.mem_cons_of_mem _ hb))]
    simp
set_option maxHeartbeats 4000000 in
theorem uF (s : ByteArray) (w : World) (ha : ∀ (j : Nat) b, s.data.toList[j]? = some b → b.toNat < 128) :
    Calls Tryz.prog 56 #[.string s, .int .i32 65533] w fun e w' => e = .returned (.int .i64 (-1)) ∧ Below w.heap.size w w' := by
  have HA := Zz.mk ha
  clear ha
  go_enter Tryz.func56, Tryz.ntmps56
  go_wp2
  go_loopg [5, 6] s.size (fun g _ _ wx => ∃ i : Nat, i + g = s.size ∧ wx = w.iter s i)
  case atStart => exact ⟨0, by omega, rfl⟩
  case round =>
    obtain ⟨i, hig, rfl⟩ := hrel
    cases gk with
    | zero =>
      obtain rfl : i = s.size := by omega
      have hnx := run_next_end (P := Tryz.prog) w s s.size
      go_wp2
      go_ret
      exact ⟨rfl, (Below.refl _ _).alloc (Nat.le_refl _) _⟩
    | succ g =>
      have hi : i < s.size := by omega
      obtain ⟨x, hx⟩ : ∃ x : UInt8, s[i]'hi = x := ⟨_, rfl⟩
      have hx128 : x.toNat < 128 := HA.out i x (by rw [← hx]; exact Go.Lib.data_getElem? s i hi)
      have hnx := fun ty => run_next_ascii (P := Tryz.prog) w s i ty hi (by rw [hx]; exact hx128)
      rw [hx] at hnx
      have hne : ((x.toNat : Int) == 65533) = false := beq_eq_false_iff_ne.2 (by omega)
      go_wp2
      go_roundg g
      case measure => omega
      case rel => exact ⟨i + 1, by omega, rfl⟩
set_option maxHeartbeats 4000000 in
theorem uE (s : ByteArray) (r : Int) (w : World) (h0 : 128 ≤ r) (h1 : r ≠ 65533) (hv : Go.Lib.validRune r = false) :
    Calls Tryz.prog 56 #[.string s, .int .i32 r] w fun e w' => e = .returned (.int .i64 (-1)) ∧ w' = w := by
  have d1 : decide (0 ≤ r) = true := decide_eq_true (by omega)
  have d2 : decide (r < 128) = false := decide_eq_false (by omega)
  have d3 : (r == 65533) = false := beq_eq_false_iff_ne.2 h1
  go_enter Tryz.func56, Tryz.ntmps56
  go_wp2_with (go_at_call 70; refine (Tryz.utf8_ValidRune _ _).mono ?_; rintro e w' ⟨rfl, rfl⟩; rw [hv])
  go_ret
  exact ⟨rfl, rfl⟩
set_option maxHeartbeats 4000000 in
theorem zm (s : ByteArray) (i j : Nat) (c : Int) (w : World) (hn : ∀ (c : UInt8) (i j : Nat), 128 ≤ c.toNat → Go.Lib.indexByte (s.extract i j).data.toList c = -1) (hc : 128 ≤ c) (hc2 : c ≤ 255) :
    Calls Tryz.prog 69 #[.string (s.extract i j), .int .u8 c] w fun e w' => e = .returned (.int .i64 (-1)) ∧ w' = w := by
  refine (Tryz.strings_IndexByte _ _ _).mono ?_
  rintro e w' ⟨rfl, rfl⟩
  rw [hn _ _ _ (by have : (c.toNat.toUInt8).toNat = c.toNat % 256 := by simp
                   omega)]
  exact ⟨rfl, rfl⟩
set_option maxHeartbeats 4000000 in
theorem ta (s : ByteArray) (r : Int) (w : World) (h0 : 128 ≤ r) (h1 : r ≠ 65533) (hv : Go.Lib.validRune r = true) (hs : s.size ≤ 1000) (ha : ∀ x : Int, bt s x < 128) (hn : ∀ (c : UInt8) (i j : Nat), 128 ≤ c.toNat → Go.Lib.indexByte (s.extract i j).data.toList c = -1) :
    Calls Tryz.prog 56 #[.string s, .int .i32 r] w fun e w' => e = .returned (.int .i64 (-1)) ∧ Drawn0 w w' := by
  have d1 : decide (0 ≤ r) = true := decide_eq_true (by omega)
  have d2 : decide (r < 128) = false := decide_eq_false (by omega)
  have d3 : (r == 65533) = false := beq_eq_false_iff_ne.2 h1
  obtain ⟨n, e1, n1, n3, e2⟩ := zf r h0
  obtain ⟨z, hz⟩ : ∃ z, Utf8.encode r = z := ⟨_, rfl⟩
  rw [hz] at e1 e2
  go_enter Tryz.func56, Tryz.ntmps56
  go_wp2_with (go_at_call 70; refine (Tryz.utf8_ValidRune _ _).mono ?_; rintro e w' ⟨rfl, rfl⟩; rw [hv])
  refine wp_scope_straight ?_
  have b0 : (0 : Int) ≤ (n : Int) := by omega
  have b1 : (n : Int) < (z.size : Int) := by omega
  have b2 : wrap64 ((z.size : Int) - 1) = (n : Int) := by rw [e1]; unfold wrap64; omega
  go_wp2
  go_loopg [9, 10] 1 (fun g v9 v10 wx => v9 = .int .i64 n ∧ v10 = .int .i64 0 ∧ wx = w')
  case atStart => exact ⟨rfl, rfl, rfl⟩
  case round =>
    obtain ⟨rfl, rfl, rfl⟩ := hrel
    by_cases hn2 : (n : Int) < (s.size : Int)
    · have q1 : n < s.size := by omega
      have q2 : n < z.size := by omega
      clear e1 b2
      obtain ⟨x1, hx1⟩ : ∃ x : Int, ((s[n]'q1).toNat : Int) = x := ⟨_, rfl⟩
      obtain ⟨y1, hy1⟩ : ∃ x : Int, ((z[n]'q2).toNat : Int) = x := ⟨_, rfl⟩
      have c1 : x1 < 128 := by have := ha n; rw [← k0 s n q1] at this; rw [← hx1]; exact this
      have c3 : 128 ≤ y1 := by rw [← k0 z n q2] at e2; rw [← hy1]; exact e2
      have c4 : y1 ≤ 255 := by have := (qV z n).2; rw [← k0 z n q2] at this; rw [← hy1]; exact this
      have c2 : (x1 != y1) = true := by rw [bne_iff_ne]; omega
      go_wp2
      refine wp_scope_straight ?_
      go_upto_region 6 with (fail)
      go_quiet (fail)
      go_upto_region 7 with (fail)
      go_quiet (first | (go_at_call 69; refine (zm _ _ _ _ _ hn (by omega) (by omega)).mono ?_; rintro e w' ⟨rfl, rfl⟩; exact ⟨rfl, _, rfl⟩))
      go_wp2
      simp only [Exit.noGoto, Exit.inBlock, Exit.then]
      go_ret
      exact ⟨rfl, (Drawn0.refl _).step _⟩
    · go_wp2
      (try simp only [Exit.noGoto, Exit.inBlock, Exit.then])
      go_ret
      exact ⟨rfl, Drawn0.refl _⟩
theorem tc (s : ByteArray) (r : Int) (w : World) (h0 : 128 ≤ r) (hs : s.size ≤ 1000) (ha : ∀ (j : Nat) b, s.data.toList[j]? = some b → b.toNat < 128) :
    Calls Tryz.prog 56 #[.string s, .int .i32 r] w fun e w' => e = .returned (.int .i64 (-1)) ∧ Below w.heap.size w w' := by
  by_cases h1 : r = 65533
  · rw [h1]; exact uF s w ha
  · cases hv : Go.Lib.validRune r
    · exact (uE s r w h0 h1 hv).mono fun e w' ⟨h, hw⟩ => ⟨h, by rw [hw]; exact Below.refl _ _⟩
    · have hb : ∀ x : Int, bt s x < 128 := by
        intro x
        unfold bt
        split
        · rename_i h
          have := ha x.toNat _ (Go.Lib.data_getElem? s x.toNat h)
          omega
        · decide
      have hn : ∀ (c : UInt8) (i j : Nat), 128 ≤ c.toNat → Go.Lib.indexByte (s.extract i j).data.toList c = -1 := by
        intro c i j hc
        refine zn fun b hb e => ?_
        subst e
        have hm : b ∈ s.data.toList := by
          have e : (s.extract i j).data.toList = (s.data.toList.drop i).take (j - i) := by simp [ByteArray.data_extract, Array.toList_extract, List.extract]
          rw [e] at hb
          exact List.mem_of_mem_drop (List.mem_of_mem_take hb)
        obtain ⟨q, hq⟩ := List.mem_iff_getElem?.1 hm
        have := ha q b hq
        omega
      exact (ta s r w h0 h1 hv hs hb hn).mono fun e w' ⟨h, hw⟩ => ⟨h, hw.below⟩
theorem yK (s : ByteArray) (pos : Nat) : ∀ k, 1 ≤ k → k < (Utf8.decode s pos).2 → 128 ≤ (s.get! (pos + k)).toNat := by
  intro k h1
  simp only [Utf8.decode]
  repeat' split
  all_goals intro h2
  all_goals simp_all
  all_goals first | omega | skip
  all_goals
    have hk : k = 1 ∨ k = 2 ∨ k = 3 := by omega
    rcases hk with rfl | rfl | rfl <;> omega
theorem zg (s : ByteArray) (k : Nat) (b : UInt8) (h : s.data.toList[k]? = some b) : s.get! k = b := by
  obtain ⟨l⟩ := s
  simp at h
  have := Array.getElem?_eq_some_iff.1 h
  obtain ⟨h1, h2⟩ := this
  simp [ByteArray.get!, h1, h2]
theorem yl {s chars : ByteArray} {pos : Nat} (hp : pos < s.size) (hh : 128 ≤ (s[pos]'hp).toNat) (hc : ∀ (j : Nat) b, chars.data.toList[j]? = some b → b.toNat < 128) (h : Go.Lib.NoAny s.data.toList chars.data.toList pos) :
    Go.Lib.NoAny s.data.toList chars.data.toList (pos + (Utf8.decode s pos).2) := by
  intro j b hj hb
  by_cases h1 : j < pos
  · exact h j b h1 hb
  · have hb128 : 128 ≤ b.toNat := by
      by_cases h2 : j = pos
      · subst h2
        have := Go.Lib.data_getElem? s j hp
        rw [this] at hb
        obtain rfl := Option.some.inj hb
        exact hh
      · have := yK s pos (j - pos) (by omega) (by omega)
        rw [show pos + (j - pos) = j by omega, zg s j b hb] at this
        exact this
    cases hx : chars.data.toList.contains b
    · rfl
    · rw [List.contains_iff_mem] at hx
      obtain ⟨q, hq⟩ := List.mem_iff_getElem?.1 hx
      have := hc q b hq
      omega
set_option maxRecDepth 1000000 in
theorem s9 (s chars : ByteArray) (w : World) (h2 : 2 ≤ chars.size) (hcs : chars.size ≤ 1000) (h8 : s.size ≤ 8) (hc : ∀ (j : Nat) b, chars.data.toList[j]? = some b → b.toNat < 128) :
    Calls Tryz.prog 41 #[.string s, .string chars] w fun e w' => e = .returned (.int .i64 (Go.Lib.indexAny s.data.toList chars.data.toList)) ∧ Below w.heap.size w w' := by
  have HA := Zz.mk hc
  clear hc
  have hemp : chars.toList.isEmpty = false := by
    rw [Go.Lib.toList_data]
    cases h : chars.data.toList with
    | nil => have := Go.Lib.size_eq chars; rw [h, List.length_nil] at this; omega
    | cons _ _ => rfl
  have hn1 : ((chars.size : Int) == 1) = false := beq_eq_false_iff_ne.2 (by omega)
  have h8z : decide ((8 : Int) < (s.size : Int)) = false := decide_eq_false (by omega)
  go_enter Tryz.func41, Tryz.ntmps41
  go_wp2_with (go_at_call 57; refine (Tryz.strings_shouldUseASCIISet _ _).mono ?_; rintro e w' ⟨rfl, rfl⟩; rw [h8z])
  go_loopg [9, 10] s.size (fun g _ _ wr => ∃ pos : Nat, Zz (s.size ≤ pos + g) ∧ Zz (Go.Lib.NoAny s.data.toList chars.data.toList pos) ∧ Zz (wr.heap[w'.heap.size]? = some (.stringIter s pos)) ∧ Zz (Below w'.heap.size w' wr))
  case atStart => exact ⟨0, ⟨by omega⟩, ⟨Go.Lib.NoAny.zero _ _⟩, ⟨World.iter_heap w' s 0⟩, ⟨(Below.refl _ _).alloc (Nat.le_refl _) _⟩⟩
  case round =>
    obtain ⟨pos, HG, HN, HI, HB⟩ := hrel
    by_cases hp : pos < s.size
    · cases gk with
      | zero => exact absurd HG.out (by omega)
      | succ k1 =>
        have hnx : ∀ ty, (Instr.next (.pointer (some ⟨w'.heap.size, 0, none⟩)) true ty).run Tryz.prog wr = _ := fun ty => Go.Lib.run_next_any_at wr w'.heap.size s pos ty HI.out hp
        have HI2 := Zz.mk (Go.Lib.iterAt_heap wr w'.heap.size s pos (pos + (Utf8.decode s pos).2) HI.out)
        have HB2 := Zz.mk (Go.Lib.below_iterAt HB.out (k := w'.heap.size) (Nat.le_refl _) s (pos + (Utf8.decode s pos).2))
        obtain ⟨W1, hW1⟩ : ∃ W1, W1 = wr.iterAt w'.heap.size s (pos + (Utf8.decode s pos).2) := ⟨_, rfl⟩
        rw [← hW1] at hnx HI2 HB2
        clear hW1 HI HB
        by_cases hx128 : (s[pos]'hp).toNat < 128
        · have hd := decode_ascii s pos hp hx128
          rw [hd] at hnx HI2
          have Hx := Zz.mk (Go.Lib.data_getElem? s pos hp)
          generalize s[pos]'hp = x at hx128 hd hnx HI2 Hx
          clear hd
          have hcon := Go.Lib.contains_iff_indexByte chars.data.toList x
          have hback : ((x.toNat : Int)).toNat.toUInt8 = x := by simp
          cases hin : chars.data.toList.contains x
          · rw [hin] at hcon
            have hlt : ¬ ((0 : Int) ≤ Go.Lib.indexByte chars.data.toList x) := of_decide_eq_false hcon.symm
            clear hcon
            have HN2 := Zz.mk (HN.out.succ Hx.out hin)
            clear HN
            go_wp2_with (go_at_call 56; refine (Tryz.strings_IndexRune_ascii _ _ _ (by omega) (by omega)).mono ?_; rintro e w2 ⟨rfl, hw⟩; rw [hw, hback])
            go_roundg k1
            case measure => omega
            case rel => exact ⟨pos + 1, ⟨by have := HG.out; omega⟩, HN2, HI2, HB2⟩
          · rw [hin] at hcon
            have hge : (0 : Int) ≤ Go.Lib.indexByte chars.data.toList x := of_decide_eq_true hcon.symm
            clear hcon
            go_wp2_with (go_at_call 56; refine (Tryz.strings_IndexRune_ascii _ _ _ (by omega) (by omega)).mono ?_; rintro e w2 ⟨rfl, hw⟩; rw [hw, hback])
            go_ret
            exact ⟨by rw [Go.Lib.indexAny_hit HN.out Hx.out hin]; rfl, HB2.out⟩
        · have hdh := decode_high s pos hp (by omega)
          have HN2 := Zz.mk (yl hp (by omega) HA.out HN.out)
          clear HN hx128
          obtain ⟨r, hr⟩ : ∃ r : Int, ((Utf8.decode s pos).1 : Int) = r := ⟨_, rfl⟩
          have hr128 : 128 ≤ r := by omega
          rw [hr] at hnx
          have hstep : 1 ≤ (Utf8.decode s pos).2 := hdh.2
          clear hr hdh
          generalize (Utf8.decode s pos).2 = n at hnx HI2 HB2 HN2 hstep
          go_wp2_with (go_at_call 56; refine (tc _ _ _ hr128 hcs HA.out).mono ?_; rintro e w2 ⟨rfl, hb⟩; replace HI2 := Zz.mk ((hb.block _ (by have := (Array.getElem?_eq_some_iff.1 HI2.out).1; omega)).trans HI2.out); replace HB2 := Zz.mk (HB2.out.trans (hb.mono HB2.out.size)); clear hb)
          go_roundg k1
          case measure => omega
          case rel => exact ⟨pos + n, ⟨by have := HG.out; omega⟩, HN2, HI2, HB2⟩
    · have hnx : ∀ ty, (Instr.next (.pointer (some ⟨w'.heap.size, 0, none⟩)) true ty).run Tryz.prog wr = _ := fun ty => Go.Lib.run_next_end_at wr w'.heap.size s pos ty HI.out hp
      go_wp2
      go_ret
      refine ⟨?_, HB.out⟩
      rw [Go.Lib.indexAny_none (fun j b hj hb => HN.out j b (by rw [← Go.Lib.size_eq] at hj; omega) hb)]
      rfl
theorem ze (s chars : ByteArray) (w : World) (hs : s.size < 4294967281) (hcs : chars.size ≤ 1000) (hc : ∀ (j : Nat) b, chars.data.toList[j]? = some b → b.toNat < 128) :
    Calls Tryz.prog 41 #[.string s, .string chars] w fun e w' => e = .returned (.int .i64 (Go.Lib.indexAny s.data.toList chars.data.toList)) ∧ Below w.heap.size w w' := by
  by_cases c0 : chars.size = 0
  · exact (Tryz.strings_IndexAny_none s chars w c0).mono fun e w' ⟨h, hw⟩ => ⟨h, by rw [hw]; exact Below.refl _ _⟩
  · by_cases c1 : chars.size = 1
    · exact (Tryz.strings_IndexAny_one s chars w c1 hc).mono fun e w' ⟨h, hw⟩ => ⟨h, by rw [hw]; exact Below.refl _ _⟩
    · by_cases h8 : s.size ≤ 8
      · exact s9 s chars w (by omega) hcs h8 hc
      · exact (Tryz.strings_IndexAny_long (zero_of_info (n := 256) (by kernel_rfl)).1 s chars w (by omega) (by omega) hs (by omega) hc).mono fun e w' ⟨h, hw⟩ => ⟨h, by rw [hw]; have b1 := (Below.refl w.heap.size w).alloc (Nat.le_refl _) (.cells (Go.Lib.setCells chars.data.toList) 80); exact b1.alloc b1.size _⟩
def iK (a0 : ByteArray) (a1 : ByteArray) : Option (Int) := if a0.size < 4294967281 ∧ a1.size ≤ 1000 ∧ a1.data.toList.all (fun b => b.toNat < 128) = true then some (Go.Lib.indexAny a0.data.toList a1.data.toList) else none
theorem eg (a0 : ByteArray) (a1 : ByteArray) (r : Int) (w : World) (h : iK a0 a1 = some r) :
    Calls Tryz.prog 41 #[.string a0, .string a1] w fun e w' => e = .returned (.int .i64 r) ∧ Below w.heap.size w w' := by
 unfold iK at h
 by_cases hs : a0.size < 4294967281 ∧ a1.size ≤ 1000 ∧ a1.data.toList.all (fun b => b.toNat < 128) = true
 · rw [if_pos hs] at h
   obtain rfl := Option.some.inj h
   refine ze a0 a1 w hs.1 hs.2.1 fun j b hb => ?_
   have := List.all_eq_true.1 hs.2.2 b (List.mem_of_getElem? hb)
   simpa using this
 · rw [if_neg hs] at h; cases h
def fS (a0 : ByteArray) (a1 : ByteArray) : Option (ByteArray × ByteArray) := (iK a0 a1).bind fun t806 => (if t806 ≥ 0 then (if 0 ≤ t806 then (if t806 ≤ (a0.size : Int) then (some (a0.extract 0 (t806 : Int).toNat, a0.extract (t806 : Int).toNat a0.size)) else (none)) else (none)) else (some (a0, (⟨#[]⟩ : ByteArray))))
theorem ey (a0 : ByteArray) (a1 : ByteArray) (r1 : ByteArray) (r2 : ByteArray) (w : World) (h : fS a0 a1 = some (r1, r2)) :
    Calls Tryz.prog 24 #[.string a0, .string a1] w fun e w' => e = .returned (.tuple #[.string r1, .string r2]) ∧ Below w.heap.size w w' := by
 have HB := Zz.mk (Below.refl w.heap.size w)
 have H := h
 clear h
 unfold fS at H
 replace H := xbd H
 obtain ⟨Ac, A3, H⟩ := H
 try dsimp only at H
 refine xid H ?_ ?_ <;> clear H <;> intro c4 H
 {
 have Af := xdt c4
 clear c4
 refine xin H ?_; clear H; intro c5 H
 obtain ⟨Ag, Ah⟩ := xcp c5
 clear c5
 refine xin H ?_; clear H; intro c6 H
 obtain ⟨Ai, Aj⟩ := xcp c6
 clear c6
 obtain ⟨An, Ab⟩ : ∃ j_ : ByteArray, (a0.extract 0 (Ac : Int).toNat) = j_ := ⟨_, rfl⟩
 try (have Ae := Ab; simp only [Int.toNat_natCast] at Ae)
 first | rw [Ab] at H | simp only [Ab] at H | skip
 (try rw [Ab] at A3)
 have Ak := eq_true (xod : 0 ≤ Ac)
 have Al := eq_true (xod : Ac ≤ (a0.size : Int))
 obtain ⟨Am, Aa⟩ : ∃ j_ : ByteArray, (a0.extract (Ac : Int).toNat a0.size) = j_ := ⟨_, rfl⟩
 try (have Ad := Aa; simp only [Int.toNat_natCast] at Ad)
 first | rw [Aa] at H | simp only [Aa] at H | skip
 (try rw [Aa] at A3)
 simp only [Option.some.injEq, Prod.mk.injEq] at H
 obtain ⟨rfl, rfl⟩ := H
 go_enter Tryz.func24, Tryz.ntmps24
 go_wp2_with (first | (go_at_call 41; (with_reducible refine (eg (w := _) (h := A3.out)).mono ?_); rintro e w11 ⟨rfl, hb⟩; replace HB := xst hb; (try clear hb)))
 repeat (go_quiet (first | (go_at_call 41; (with_reducible refine (eg (w := _) (h := A3.out)).mono ?_); rintro e w11 ⟨rfl, hb⟩; replace HB := xst hb; (try clear hb))); try go_wp2_with (first | (go_at_call 41; (with_reducible refine (eg (w := _) (h := A3.out)).mono ?_); rintro e w11 ⟨rfl, hb⟩; replace HB := xst hb; (try clear hb))))
 go_ret2
 exact ⟨by first | exact xrd | (simp only [← Ab, ← Aa]; exact xrd) | exact xre, xbl⟩
 }
 have Af := xdf c4
 clear c4
 simp only [Option.some.injEq, Prod.mk.injEq] at H
 obtain ⟨rfl, rfl⟩ := H
 go_enter Tryz.func24, Tryz.ntmps24
 go_wp2_with (first | (go_at_call 41; (with_reducible refine (eg (w := _) (h := A3.out)).mono ?_); rintro e w12 ⟨rfl, hb⟩; replace HB := xst hb; (try clear hb)))
 repeat (go_quiet (first | (go_at_call 41; (with_reducible refine (eg (w := _) (h := A3.out)).mono ?_); rintro e w12 ⟨rfl, hb⟩; replace HB := xst hb; (try clear hb))); try go_wp2_with (first | (go_at_call 41; (with_reducible refine (eg (w := _) (h := A3.out)).mono ?_); rintro e w12 ⟨rfl, hb⟩; replace HB := xst hb; (try clear hb))))
 go_ret2
 exact ⟨xre, xbl⟩
def ga (a0 : ByteArray) (a1 : ByteArray) : Option (ByteArray × Bool) := (cV a0 a1).bind fun t807 => (if t807 = true then (if 0 ≤ (a1.size : Int) then (if (a1.size : Int) ≤ (a0.size : Int) then (some (a0.extract ((a1.size : Int) : Int).toNat a0.size, true)) else (none)) else (none)) else (some (a0, false)))
theorem lq (a0 : ByteArray) (a1 : ByteArray) (r1 : ByteArray) (r2 : Bool) (w : World) (h : ga a0 a1 = some (r1, r2)) :
    Calls Tryz.prog 43 #[.string a0, .string a1] w fun e w' => e = .returned (.tuple #[.string r1, .bool r2]) ∧ Drawn0 w w' := by
 have H := h
 clear h
 unfold ga at H
 replace H := xbd H
 obtain ⟨Ac, A3, H⟩ := H
 try dsimp only at H
 refine xib H ?_ ?_ <;> clear H <;> rintro rfl H
 {
 refine xin H ?_; clear H; intro c5 H
 obtain ⟨Ad, Ae⟩ := xcp c5
 clear c5
 refine xin H ?_; clear H; intro c6 H
 obtain ⟨Af, Ag⟩ := xcp c6
 clear c6
 obtain ⟨Ah, Aa⟩ : ∃ j_ : ByteArray, (a0.extract ((a1.size : Int) : Int).toNat a0.size) = j_ := ⟨_, rfl⟩
 try (have Ab := Aa; simp only [Int.toNat_natCast] at Ab)
 first | rw [Aa] at H | simp only [Aa] at H | skip
 (try rw [Aa] at A3)
 simp only [Option.some.injEq, Prod.mk.injEq] at H
 obtain ⟨rfl, rfl⟩ := H
 go_enter Tryz.func43, Tryz.ntmps43
 go_wp2_with (first | ((with_reducible refine xgc (f := 42) rfl ?_); refine xca 8 Tryz.func42 (gH (w := _) (h := A3.out)) ?_; rintro w' ⟨nd, rfl⟩))
 go_ret2
 exact ⟨by first | exact xrs | (simp only [← Aa] <;> (first | rfl | simp)) | exact xrr, xdr⟩
 }
 simp only [Option.some.injEq, Prod.mk.injEq] at H
 obtain ⟨rfl, rfl⟩ := H
 go_enter Tryz.func43, Tryz.ntmps43
 go_wp2_with (first | ((with_reducible refine xgc (f := 42) rfl ?_); refine xca 8 Tryz.func42 (gH (w := _) (h := A3.out)) ?_; rintro w' ⟨nd, rfl⟩))
 go_ret2
 exact ⟨xrr, xdr⟩
def cq (a0 : ByteArray) (a1 : ByteArray) : Option (ByteArray × Bool) := (ga a0 a1).bind fun bt808 => (some (bt808.1, bt808.2))
theorem bR (a0 : ByteArray) (a1 : ByteArray) (r1 : ByteArray) (r2 : Bool) (w : World) (h : cq a0 a1 = some (r1, r2)) :
    Calls Tryz.prog 26 #[.string a0, .string a1] w fun e w' => e = .returned (.tuple #[.string r1, .bool r2]) ∧ Drawn0 w w' := by
 have H := h
 clear h
 unfold cq at H
 replace H := xbd H
 obtain ⟨⟨t808, t809⟩, A3, H⟩ := H
 try dsimp only at H
 simp only [Option.some.injEq, Prod.mk.injEq] at H
 obtain ⟨rfl, rfl⟩ := H
 go_enter Tryz.func26, Tryz.ntmps26
 go_wp2_with (first | ((with_reducible refine xgc (f := 43) rfl ?_); refine xca 8 Tryz.func43 (lq (w := _) (h := A3.out)) ?_; rintro w' ⟨nd, rfl⟩))
 go_ret2
 exact ⟨xrr, xdr⟩
mutual
def gj : Nat → ByteArray → ByteArray → ByteArray → Bool → ByteArray → Bool → ByteArray → ByteArray → Bool → ByteArray → Bool → ByteArray → Option (ByteArray × Bool × ByteArray × ByteArray × Bool × ByteArray × Bool × ByteArray)
  | 0, _, _, _, _, _, _, _, _, _, _, _, _ => none
  | k + 1, x0, x4, x5, Ai, Ah, Aa, Ab, Ac, Ad, Ae, Af, Ag => if Ai = true then (if 1 ≤ (x5.size : Int) then (gl k (x5.extract 1 x5.size) x4 Aa Ab Ac Ad Ae Af Ag) else (none)) else (gl k x0 Ah Aa Ab Ac Ad Ae Af Ag)
def gl : Nat → ByteArray → ByteArray → Bool → ByteArray → ByteArray → Bool → ByteArray → Bool → ByteArray → Option (ByteArray × Bool × ByteArray × ByteArray × Bool × ByteArray × Bool × ByteArray)
  | 0, _, _, _, _, _, _, _, _, _ => none
  | k + 1, x0, Aa, Ag, Ah, Ab, Ac, Ad, Ae, Af => (cq x0 (⟨#[47, 47]⟩ : ByteArray)).bind fun Ai => (if Ai.2 = true then ((fS Ai.1 (⟨#[47, 63, 35]⟩ : ByteArray)).bind fun Aj => (gm k Aj.2 Aa true Aj.1 Ab Ac Ad Ae Af)) else (gm k x0 Aa Ag Ah Ab Ac Ad Ae Af))
def gm : Nat → ByteArray → ByteArray → Bool → ByteArray → ByteArray → Bool → ByteArray → Bool → ByteArray → Option (ByteArray × Bool × ByteArray × ByteArray × Bool × ByteArray × Bool × ByteArray)
  | 0, _, _, _, _, _, _, _, _, _ => none
  | k + 1, x0, Aa, Ab, Ac, Am, Ae, Af, Ag, Ah => (fS x0 (⟨#[63, 35]⟩ : ByteArray)).bind fun Ad => ((cq Ad.2 (⟨#[63]⟩ : ByteArray)).bind fun Aj => (if Aj.2 = true then ((fS Aj.1 (⟨#[35]⟩ : ByteArray)).bind fun Ai => ((cq Ai.2 (⟨#[35]⟩ : ByteArray)).bind fun Ak => (if Ak.2 = true then (some (Aa, Ab, Ac, Ad.1, true, Ai.1, true, Ak.1)) else (some (Aa, Ab, Ac, Ad.1, true, Ai.1, Ag, Ah))))) else ((cq Ad.2 (⟨#[35]⟩ : ByteArray)).bind fun Al => (if Al.2 = true then (some (Aa, Ab, Ac, Ad.1, Ae, Af, true, Al.1)) else (some (Aa, Ab, Ac, Ad.1, Ae, Af, Ag, Ah))))))
end
def iB (k : Nat) (a0 : ByteArray) : Option (ByteArray × Bool × ByteArray × ByteArray × Bool × ByteArray × Bool × ByteArray) := (fS a0 (⟨#[58, 47, 63, 35]⟩ : ByteArray)).bind fun Aa => (if Aa.1.toList = ([] : List UInt8) then (gj k a0 Aa.1 Aa.2 false (⟨#[]⟩ : ByteArray) false (⟨#[]⟩ : ByteArray) (⟨#[]⟩ : ByteArray) false (⟨#[]⟩ : ByteArray) false (⟨#[]⟩ : ByteArray)) else ((cM Aa.2 (⟨#[58]⟩ : ByteArray)).bind fun Ab => (gj k a0 Aa.1 Aa.2 Ab (⟨#[]⟩ : ByteArray) false (⟨#[]⟩ : ByteArray) (⟨#[]⟩ : ByteArray) false (⟨#[]⟩ : ByteArray) false (⟨#[]⟩ : ByteArray))))
theorem lJ (k : Nat) (a0 : ByteArray) (r1 : ByteArray) (r2 : Bool) (r3 : ByteArray) (r4 : ByteArray) (r5 : Bool) (r6 : ByteArray) (r7 : Bool) (r8 : ByteArray) (w : World) (h : iB k a0 = some (r1, r2, r3, r4, r5, r6, r7, r8)) :
    Calls Tryz.prog 17 #[.string a0] w fun e w' => e = .returned (.agg #[.string r1, .bool r2, .string r3, .string r4, .bool r5, .string r6, .bool r7, .string r8]) ∧ Below w.heap.size w w' := by
 have hu24 := Tryz.underlying24
 have HB := Zz.mk (Below.refl w.heap.size w)
 have H := h
 clear h
 unfold iB at H
 replace H := xbd H
 obtain ⟨⟨Ao, Aq⟩, A2, H⟩ := H
 try dsimp only at H
 have Av := Zz.mk H
 clear H
 go_enter Tryz.func17, Tryz.ntmps17
 go_upto_region 3 with (first | ((with_reducible refine aj (N := 2) rfl ?_); refine xew 2 ?_; intro Af w4 Ae AE hb hg; replace HB := xst hb; clear hb hg) | ((with_reducible refine aj (N := 3) rfl ?_); refine xew 3 ?_; intro Ai w5 Ad AF hb hg; have Ag := xlt (g := Af) hg; have Ah := xgt (g := Af) hg; replace Ae := xbb (g := Af) (o := .cells #[.string (⟨#[]⟩ : ByteArray), .bool false, .string (⟨#[]⟩ : ByteArray), .string (⟨#[]⟩ : ByteArray), .bool false, .string (⟨#[]⟩ : ByteArray), .bool false, .string (⟨#[]⟩ : ByteArray)] 24 (0, 0)) hb; replace HB := xst hb; clear hb hg) | ((with_reducible refine xgc (f := 24) rfl ?_); refine xca 14 Tryz.func24 (ey (w := _) (h := A2.out)) ?_; rintro w6 hb; replace Ae := xbb (g := Af) (o := .cells #[.string (⟨#[]⟩ : ByteArray), .bool false, .string (⟨#[]⟩ : ByteArray), .string (⟨#[]⟩ : ByteArray), .bool false, .string (⟨#[]⟩ : ByteArray), .bool false, .string (⟨#[]⟩ : ByteArray)] 24 (0, 0)) hb; replace Ad := xbb (g := Ai) (o := .cells #[.string (⟨#[]⟩ : ByteArray), .bool false, .string (⟨#[]⟩ : ByteArray), .string (⟨#[]⟩ : ByteArray), .bool false, .string (⟨#[]⟩ : ByteArray), .bool false, .string (⟨#[]⟩ : ByteArray)] 24 (0, 0)) hb; replace HB := xst hb; (try clear hb)))
 (try simp only [Act.put, xl1, xl2, xl3])
 go_cut [22] (fun v22 wc => ∃ kq Ak, v22 = .bool Ak ∧ Zz (gj kq a0 Ao Aq Ak (⟨#[]⟩ : ByteArray) false (⟨#[]⟩ : ByteArray) (⟨#[]⟩ : ByteArray) false (⟨#[]⟩ : ByteArray) false (⟨#[]⟩ : ByteArray) = some (r1, r2, r3, r4, r5, r6, r7, r8)) ∧ Zz (kq ≤ k) ∧ Zz (wc.heap[Af]? = some (.cells #[.string (⟨#[]⟩ : ByteArray), .bool false, .string (⟨#[]⟩ : ByteArray), .string (⟨#[]⟩ : ByteArray), .bool false, .string (⟨#[]⟩ : ByteArray), .bool false, .string (⟨#[]⟩ : ByteArray)] 24 (0, 0))) ∧ Zz (wc.heap[Ai]? = some (.cells #[.string (⟨#[]⟩ : ByteArray), .bool false, .string (⟨#[]⟩ : ByteArray), .string (⟨#[]⟩ : ByteArray), .bool false, .string (⟨#[]⟩ : ByteArray), .bool false, .string (⟨#[]⟩ : ByteArray)] 24 (0, 0))) ∧ Zz (Below w.heap.size w wc))
 case first => (
 have H := Av.out
 clear Av
 refine xid H ?_ ?_ <;> clear H <;> intro c7 H
 {
 obtain ⟨Al, Aw⟩ := xqe c7
 (try (have Ar : Ao.toList.isEmpty = true := by simpa using c7))
 clear c7
 (first | rw [Al] | (simp only [ag, ak]; rw [Al]) | (rw [Ar]; (try simp only [Bool.not_false, Bool.not_true])) | skip)
 replace H := xa H
 go_wp2
 go_meet
 case rel => exact ⟨_, (false), xrr, H, ⟨xom⟩, ⟨xbk⟩, ⟨xbk⟩, ⟨xbl⟩⟩
 }
 obtain ⟨Al, Aw⟩ := xqn c7
 (try (have Ar : Ao.toList.isEmpty = false := by simpa using c7))
 (first | rw [Al] | (simp only [ag, ak]; rw [Al]) | (rw [Ar]; (try simp only [Bool.not_false, Bool.not_true])) | skip)
 replace H := xbd H
 obtain ⟨Ax, A8, H⟩ := H
 try dsimp only at H
 replace H := xa H
 go_wp2_with (first | (go_at_call 25; (with_reducible refine (av (w := _) (h := A8.out)).mono ?_); rintro e w' ⟨rfl, ⟨nd, rfl⟩⟩))
 go_meet
 case rel => exact ⟨_, (Ax), xrr, H, ⟨xom⟩, ⟨xbk⟩, ⟨xbk⟩, ⟨xbl⟩⟩
 )
 case rest => (
 clear Av
 obtain ⟨kq, Ak, rfl, HA, HJ2, Ae, Ad, HB⟩ := hcut
 cases kq with
 | zero => exact absurd HA.out (by simp [gj])
 | succ kj2 => (
 have H := HA.out
 clear HA
 simp only [gj] at H
 have Ay := Zz.mk H
 clear H
 go_upto_if 22 with (fail)
 go_cut [0] (fun v0 wc => ∃ kq Ap Aa, v0 = .string Ap ∧ Zz (gl kq Ap Aa false (⟨#[]⟩ : ByteArray) (⟨#[]⟩ : ByteArray) false (⟨#[]⟩ : ByteArray) false (⟨#[]⟩ : ByteArray) = some (r1, r2, r3, r4, r5, r6, r7, r8)) ∧ Zz (kq ≤ kj2) ∧ Zz (wc.heap[Af]? = some (.cells #[.string (⟨#[]⟩ : ByteArray), .bool false, .string (⟨#[]⟩ : ByteArray), .string (⟨#[]⟩ : ByteArray), .bool false, .string (⟨#[]⟩ : ByteArray), .bool false, .string (⟨#[]⟩ : ByteArray)] 24 (0, 0))) ∧ Zz (wc.heap[Ai]? = some (.cells #[.string Aa, .bool false, .string (⟨#[]⟩ : ByteArray), .string (⟨#[]⟩ : ByteArray), .bool false, .string (⟨#[]⟩ : ByteArray), .bool false, .string (⟨#[]⟩ : ByteArray)] 24 (0, 0))) ∧ Zz (Below w.heap.size w wc))
 case first => (
 have H := Ay.out
 clear Ay
 refine xib H ?_ ?_ <;> clear H <;> rintro rfl H
 {
 refine xin H ?_; clear H; intro c11 H
 obtain ⟨AG, AH⟩ := xcp c11
 clear c11
 obtain ⟨Az, Am⟩ : ∃ j_ : ByteArray, (Aq.extract 1 Aq.size) = j_ := ⟨_, rfl⟩
 first | rw [Am] at H | simp only [Am] at H | skip
 replace H := xa H
 try go_wp2
 replace Ae := Zz.mk (bc Ae.out)
 replace Ad := Zz.mk (bc Ad.out)
 replace HB := Zz.mk (aA HB.out)
 refine io (n := 6) (S := fun w' => True) (ds := []) #[false, false, false, false, false, false] (by kernel_rfl) rfl rfl trivial (fun hHeld => ?_)
 generalize wc.drew = w13 at Ae Ad HB hHeld ⊢
 refine ct (i := 0) (N := some 23) (v := ?_) (a' := ?_) #[true, false, false, false, false, false] rfl rfl (by kernel_rfl) (fun _ _ _ h => h) (Or.inl ⟨by rfl, ?_⟩) ?_ ?_
 rotate_left
 {
 intro w'
 go_simp
 with_reducible rfl
 }
 rotate_left
 {
 simp only [Act.put, xl1, xl2, xl3, ag, ak]
 rfl
 }
 refine ct (i := 1) (N := some 24) (v := ?_) (a' := ?_) #[true, true, false, false, false, false] rfl rfl (by kernel_rfl) (fun _ _ _ h => h) (Or.inl ⟨by rfl, ?_⟩) ?_ ?_
 rotate_left
 {
 intro w'
 go_simp
 with_reducible rfl
 }
 rotate_left
 {
 simp only [Act.put, xl1, xl2, xl3, ag, ak]
 rfl
 }
 refine ct (i := 2) (N := some 25) (v := ?_) (a' := ?_) #[true, true, true, false, false, false] rfl rfl (by kernel_rfl) (fun _ _ _ h => h) (Or.inl ⟨by rfl, ?_⟩) ?_ ?_
 rotate_left
 {
 intro w'
 go_simp
 with_reducible rfl
 }
 rotate_left
 {
 simp only [Act.put, xl1, xl2, xl3, ag, ak]
 rfl
 }
 refine ct (i := 3) (N := some 26) (v := ?_) (a' := ?_) #[true, true, true, true, false, false] rfl rfl (by kernel_rfl) (fun _ _ _ h => h) (Or.inl ⟨by rfl, ?_⟩) ?_ ?_
 rotate_left
 {
 intro w'
 go_simp
 with_reducible rfl
 }
 rotate_left
 {
 simp only [Act.put, xl1, xl2, xl3, ag, ak]
 rfl
 }
 refine dm (i := 4) (N := none) #[true, true, true, true, true, false] rfl rfl (by kernel_rfl) (by decide) (fun K hK => ?_)
 have hs14 : w13.cell? ⟨Ai, 0, none⟩ = some (.string (⟨#[]⟩ : ByteArray)) := (ao Ad.out 0).trans rfl
 have AI := xf Ad 0
 have Au := Ag.out
 have hms14_0 := Ah.out
 refine lV (w1 := ?_) (by rfl) rfl ?_ ?_
 rotate_left
 {
 go_simp
 rfl
 }
 refine hK.out _ _ trivial (fun hHeld => ?_)
 clear hK K
 refine ct (i := 5) (N := some 0) (v := ?_) (a' := ?_) #[true, true, true, true, true, true] rfl rfl (by kernel_rfl) (fun _ _ _ h => h) (Or.inl ⟨by rfl, ?_⟩) ?_ ?_
 rotate_left
 {
 intro w'
 go_simp
 with_reducible rfl
 }
 rotate_left
 {
 simp only [Act.put, xl1, xl2, xl3, ag, ak]
 rfl
 }
 refine kA (by kernel_rfl) ?_
 try go_wp2
 go_meet
 case rel => exact ⟨_, (Az), (Ao), (by first | exact xrs | (simp only [← Am] <;> (first | rfl | simp)) | exact xrr), H, ⟨xoj HJ2⟩, ⟨xbK⟩, ⟨xbK⟩, ⟨xbl⟩⟩
 }
 replace H := xa H
 go_wp2
 go_meet
 case rel => exact ⟨_, (a0), ((⟨#[]⟩ : ByteArray)), xrr, H, ⟨xoj HJ2⟩, ⟨xbk⟩, ⟨xbk⟩, ⟨xbl⟩⟩
 )
 case rest => (
 clear Ay
 obtain ⟨kq, Ap, Aa, rfl, HA, HJ8, Ae, Ad, HB⟩ := hcut
 cases kq with
 | zero => exact absurd HA.out (by simp [gl])
 | succ kj8 => (
 have H := HA.out
 clear HA
 simp only [gl] at H
 replace H := xbd H
 obtain ⟨⟨AT, AU⟩, A15, H⟩ := H
 try dsimp only at H
 have As := Zz.mk H
 clear H
 go_upto_if 32 with (first | ((with_reducible refine xgc (f := 26) rfl ?_); refine xca 29 Tryz.func26 (bR (w := _) (h := A15.out)) ?_; rintro w' ⟨nd, rfl⟩))
 (try simp only [Act.put, xl1, xl2, xl3])
 go_cut [0] (fun v0 wc => ∃ kq An Ab Ac, v0 = .string An ∧ Zz (gm kq An Aa Ab Ac (⟨#[]⟩ : ByteArray) false (⟨#[]⟩ : ByteArray) false (⟨#[]⟩ : ByteArray) = some (r1, r2, r3, r4, r5, r6, r7, r8)) ∧ Zz (kq ≤ kj8) ∧ Zz (wc.heap[Af]? = some (.cells #[.string (⟨#[]⟩ : ByteArray), .bool false, .string (⟨#[]⟩ : ByteArray), .string (⟨#[]⟩ : ByteArray), .bool false, .string (⟨#[]⟩ : ByteArray), .bool false, .string (⟨#[]⟩ : ByteArray)] 24 (0, 0))) ∧ Zz (wc.heap[Ai]? = some (.cells #[.string Aa, .bool Ab, .string Ac, .string (⟨#[]⟩ : ByteArray), .bool false, .string (⟨#[]⟩ : ByteArray), .bool false, .string (⟨#[]⟩ : ByteArray)] 24 (0, 0))) ∧ Zz (Below w.heap.size w wc))
 case first => (
 have H := As.out
 clear As
 refine xib H ?_ ?_ <;> clear H <;> rintro rfl H
 {
 replace H := xbd H
 obtain ⟨⟨AA, AB⟩, A18, H⟩ := H
 try dsimp only at H
 replace H := xa H
 have AJ := Ah.out
 have AK := Ag.out
 have AV := xz8 Ad.out
 go_wp2_with (first | ((with_reducible refine xgc (f := 24) rfl ?_); refine xca 36 Tryz.func24 (ey (w := _) (h := A18.out)) ?_; rintro w21 hb; replace Ae := xbb (g := Af) (o := .cells #[.string (⟨#[]⟩ : ByteArray), .bool false, .string (⟨#[]⟩ : ByteArray), .string (⟨#[]⟩ : ByteArray), .bool false, .string (⟨#[]⟩ : ByteArray), .bool false, .string (⟨#[]⟩ : ByteArray)] 24 (0, 0)) hb; replace Ad := xbb (g := Ai) (o := .cells #[.string Aa, .bool true, .string (⟨#[]⟩ : ByteArray), .string (⟨#[]⟩ : ByteArray), .bool false, .string (⟨#[]⟩ : ByteArray), .bool false, .string (⟨#[]⟩ : ByteArray)] 24 (0, 0)) hb; replace HB := xst hb; (try clear hb); have AW := xz8 Ad.out))
 go_meet
 case rel => exact ⟨_, (AB), (true), (AA), xrr, H, ⟨xoJ HJ2 HJ8⟩, ⟨xbK⟩, ⟨xbK⟩, ⟨xbl⟩⟩
 }
 replace H := xa H
 go_wp2
 go_meet
 case rel => exact ⟨_, (Ap), (false), ((⟨#[]⟩ : ByteArray)), xrr, H, ⟨xoJ HJ2 HJ8⟩, ⟨xbk⟩, ⟨xbk⟩, ⟨xbl⟩⟩
 )
 case rest => (
 clear As
 obtain ⟨kq, An, Ab, Ac, rfl, HA, HJ15, Ae, Ad, HB⟩ := hcut
 cases kq with
 | zero => exact absurd HA.out (by simp [gm])
 | succ kj15 => (
 have H := HA.out
 clear HA
 simp only [gm] at H
 replace H := xbd H
 obtain ⟨⟨Aj, AX⟩, A23, H⟩ := H
 try dsimp only at H
 replace H := xbd H
 obtain ⟨⟨AY, AZ⟩, A24, H⟩ := H
 try dsimp only at H
 refine xib H ?_ ?_ <;> clear H <;> rintro rfl H
 {
 replace H := xbd H
 obtain ⟨⟨At, A0⟩, A26, H⟩ := H
 try dsimp only at H
 replace H := xbd H
 obtain ⟨⟨AC, A1⟩, A27, H⟩ := H
 try dsimp only at H
 refine xib H ?_ ?_ <;> clear H <;> rintro rfl H
 {
 simp only [Option.some.injEq, Prod.mk.injEq] at H
 obtain ⟨rfl, rfl, rfl, rfl, rfl, rfl, rfl, rfl⟩ := H
 go_wp2_with (first | ((with_reducible refine xgc (f := 24) rfl ?_); refine xca 42 Tryz.func24 (ey (w := _) (h := A23.out)) ?_; rintro w29 hb; replace Ae := xbb (g := Af) (o := .cells #[.string (⟨#[]⟩ : ByteArray), .bool false, .string (⟨#[]⟩ : ByteArray), .string (⟨#[]⟩ : ByteArray), .bool false, .string (⟨#[]⟩ : ByteArray), .bool false, .string (⟨#[]⟩ : ByteArray)] 24 (0, 0)) hb; replace Ad := xbb (g := Ai) (o := .cells #[.string Aa, .bool Ab, .string Ac, .string (⟨#[]⟩ : ByteArray), .bool false, .string (⟨#[]⟩ : ByteArray), .bool false, .string (⟨#[]⟩ : ByteArray)] 24 (0, 0)) hb; replace HB := xst hb; (try clear hb); have AL := Ah.out; have AM := Ag.out; have A3 := xz8 Ad.out) | ((with_reducible refine xgc (f := 26) rfl ?_); refine xca 48 Tryz.func26 (bR (w := _) (h := A24.out)) ?_; rintro w' ⟨nd, rfl⟩) | ((with_reducible refine xgc (f := 24) rfl ?_); refine xca 55 Tryz.func24 (ey (w := _) (h := A26.out)) ?_; rintro w32 hb; replace Ae := xbb (g := Af) (o := .cells #[.string (⟨#[]⟩ : ByteArray), .bool false, .string (⟨#[]⟩ : ByteArray), .string (⟨#[]⟩ : ByteArray), .bool false, .string (⟨#[]⟩ : ByteArray), .bool false, .string (⟨#[]⟩ : ByteArray)] 24 (0, 0)) hb; replace Ad := xbb (g := Ai) (o := .cells #[.string Aa, .bool Ab, .string Ac, .string Aj, .bool true, .string (⟨#[]⟩ : ByteArray), .bool false, .string (⟨#[]⟩ : ByteArray)] 24 (0, 0)) hb; replace HB := xst hb; (try clear hb); have A4 := xz8 Ad.out) | ((with_reducible refine xgc (f := 26) rfl ?_); refine xca 61 Tryz.func26 (bR (w := _) (h := A27.out)) ?_; rintro w' ⟨nd, rfl⟩; have A5 := xz8 Ae.out))
 refine bodyPost_ret (results_cell_row rfl _ _ Af 24 #[.string Aa, .bool Ab, .string Ac, .string Aj, .bool true, .string At, .bool true, .string AC] (0, 0) _ rfl xbk Tryz.underlying24 rfl (by kernel_rfl)) rfl ?_
 exact ⟨xre, xbl⟩
 }
 simp only [Option.some.injEq, Prod.mk.injEq] at H
 obtain ⟨rfl, rfl, rfl, rfl, rfl, rfl, rfl, rfl⟩ := H
 go_wp2_with (first | ((with_reducible refine xgc (f := 24) rfl ?_); refine xca 42 Tryz.func24 (ey (w := _) (h := A23.out)) ?_; rintro w35 hb; replace Ae := xbb (g := Af) (o := .cells #[.string (⟨#[]⟩ : ByteArray), .bool false, .string (⟨#[]⟩ : ByteArray), .string (⟨#[]⟩ : ByteArray), .bool false, .string (⟨#[]⟩ : ByteArray), .bool false, .string (⟨#[]⟩ : ByteArray)] 24 (0, 0)) hb; replace Ad := xbb (g := Ai) (o := .cells #[.string Aa, .bool Ab, .string Ac, .string (⟨#[]⟩ : ByteArray), .bool false, .string (⟨#[]⟩ : ByteArray), .bool false, .string (⟨#[]⟩ : ByteArray)] 24 (0, 0)) hb; replace HB := xst hb; (try clear hb); have AN := Ah.out; have AO := Ag.out; have A6 := xz8 Ad.out) | ((with_reducible refine xgc (f := 26) rfl ?_); refine xca 48 Tryz.func26 (bR (w := _) (h := A24.out)) ?_; rintro w' ⟨nd, rfl⟩) | ((with_reducible refine xgc (f := 24) rfl ?_); refine xca 55 Tryz.func24 (ey (w := _) (h := A26.out)) ?_; rintro w38 hb; replace Ae := xbb (g := Af) (o := .cells #[.string (⟨#[]⟩ : ByteArray), .bool false, .string (⟨#[]⟩ : ByteArray), .string (⟨#[]⟩ : ByteArray), .bool false, .string (⟨#[]⟩ : ByteArray), .bool false, .string (⟨#[]⟩ : ByteArray)] 24 (0, 0)) hb; replace Ad := xbb (g := Ai) (o := .cells #[.string Aa, .bool Ab, .string Ac, .string Aj, .bool true, .string (⟨#[]⟩ : ByteArray), .bool false, .string (⟨#[]⟩ : ByteArray)] 24 (0, 0)) hb; replace HB := xst hb; (try clear hb); have A7 := xz8 Ad.out) | ((with_reducible refine xgc (f := 26) rfl ?_); refine xca 61 Tryz.func26 (bR (w := _) (h := A27.out)) ?_; rintro w' ⟨nd, rfl⟩; have A9 := xz8 Ae.out))
 refine bodyPost_ret (results_cell_row rfl _ _ Af 24 #[.string Aa, .bool Ab, .string Ac, .string Aj, .bool true, .string At, .bool false, .string (⟨#[]⟩ : ByteArray)] (0, 0) _ rfl xbk Tryz.underlying24 rfl (by kernel_rfl)) rfl ?_
 exact ⟨xre, xbl⟩
 }
 replace H := xbd H
 obtain ⟨⟨AD, Ba⟩, A41, H⟩ := H
 try dsimp only at H
 refine xib H ?_ ?_ <;> clear H <;> rintro rfl H
 {
 simp only [Option.some.injEq, Prod.mk.injEq] at H
 obtain ⟨rfl, rfl, rfl, rfl, rfl, rfl, rfl, rfl⟩ := H
 go_wp2_with (first | ((with_reducible refine xgc (f := 24) rfl ?_); refine xca 42 Tryz.func24 (ey (w := _) (h := A23.out)) ?_; rintro w43 hb; replace Ae := xbb (g := Af) (o := .cells #[.string (⟨#[]⟩ : ByteArray), .bool false, .string (⟨#[]⟩ : ByteArray), .string (⟨#[]⟩ : ByteArray), .bool false, .string (⟨#[]⟩ : ByteArray), .bool false, .string (⟨#[]⟩ : ByteArray)] 24 (0, 0)) hb; replace Ad := xbb (g := Ai) (o := .cells #[.string Aa, .bool Ab, .string Ac, .string (⟨#[]⟩ : ByteArray), .bool false, .string (⟨#[]⟩ : ByteArray), .bool false, .string (⟨#[]⟩ : ByteArray)] 24 (0, 0)) hb; replace HB := xst hb; (try clear hb); have AP := Ah.out; have AQ := Ag.out; have Bb := xz8 Ad.out) | ((with_reducible refine xgc (f := 26) rfl ?_); refine xca 48 Tryz.func26 (bR (w := _) (h := A24.out)) ?_; rintro w' ⟨nd, rfl⟩) | ((with_reducible refine xgc (f := 26) rfl ?_); refine xca 61 Tryz.func26 (bR (w := _) (h := A41.out)) ?_; rintro w' ⟨nd, rfl⟩; have Bc := xz8 Ae.out))
 refine bodyPost_ret (results_cell_row rfl _ _ Af 24 #[.string Aa, .bool Ab, .string Ac, .string Aj, .bool false, .string (⟨#[]⟩ : ByteArray), .bool true, .string AD] (0, 0) _ rfl xbk Tryz.underlying24 rfl (by kernel_rfl)) rfl ?_
 exact ⟨xre, xbl⟩
 }
 simp only [Option.some.injEq, Prod.mk.injEq] at H
 obtain ⟨rfl, rfl, rfl, rfl, rfl, rfl, rfl, rfl⟩ := H
 go_wp2_with (first | ((with_reducible refine xgc (f := 24) rfl ?_); refine xca 42 Tryz.func24 (ey (w := _) (h := A23.out)) ?_; rintro w47 hb; replace Ae := xbb (g := Af) (o := .cells #[.string (⟨#[]⟩ : ByteArray), .bool false, .string (⟨#[]⟩ : ByteArray), .string (⟨#[]⟩ : ByteArray), .bool false, .string (⟨#[]⟩ : ByteArray), .bool false, .string (⟨#[]⟩ : ByteArray)] 24 (0, 0)) hb; replace Ad := xbb (g := Ai) (o := .cells #[.string Aa, .bool Ab, .string Ac, .string (⟨#[]⟩ : ByteArray), .bool false, .string (⟨#[]⟩ : ByteArray), .bool false, .string (⟨#[]⟩ : ByteArray)] 24 (0, 0)) hb; replace HB := xst hb; (try clear hb); have AR := Ah.out; have AS := Ag.out; have Bd := xz8 Ad.out) | ((with_reducible refine xgc (f := 26) rfl ?_); refine xca 48 Tryz.func26 (bR (w := _) (h := A24.out)) ?_; rintro w' ⟨nd, rfl⟩) | ((with_reducible refine xgc (f := 26) rfl ?_); refine xca 61 Tryz.func26 (bR (w := _) (h := A41.out)) ?_; rintro w' ⟨nd, rfl⟩; have Be := xz8 Ae.out))
 refine bodyPost_ret (results_cell_row rfl _ _ Af 24 #[.string Aa, .bool Ab, .string Ac, .string Aj, .bool false, .string (⟨#[]⟩ : ByteArray), .bool false, .string (⟨#[]⟩ : ByteArray)] (0, 0) _ rfl xbk Tryz.underlying24 rfl (by kernel_rfl)) rfl ?_
 exact ⟨xre, xbl⟩
 )
 )
 )
 )
 )
 )
end Go.Proofs.YtpmflpeckoeooaaGreatDoor.X
