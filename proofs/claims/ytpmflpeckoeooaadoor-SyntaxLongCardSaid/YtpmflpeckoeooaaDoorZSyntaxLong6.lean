/- Texts that the law's proof needs, joined by a program of this session. -/
import Derived.Test.YtpmflpeckoeooaaDoorZSyntaxLong1
import Derived.Test.YtpmflpeckoeooaaDoorZSyntaxLong4
import Derived.Test.YtpmflpeckoeooaaDoorZSyntaxLong5
namespace Go.Proofs.YtpmflpeckoeooaaDoor.X
open Go.RowKit Go.Proofs.YtpmflpeckoeooaaDoorW.PrintWords Go.Proofs.YtpmflpeckoeooaaDoorW.PrintLast Go.Proofs.YtpmflpeckoeooaaDoorW.PrintMore
attribute [local go_sem] xj_then_goto xj_block_goto xj_normal xj_exit xj_ret xj_panic xj_goto max2_int min2_int max_two min_two max_three min_three max_four min_four
set_option linter.unusedVariables false
set_option linter.unusedSimpArgs false
def ip_V4.l0 : Nat → List ByteArray → Int → Int → Int → Int → Int → Int → Option (Int × Int × Int × Int × Bool)
  | 0, _, _, _, _, _, _, _ => none
  | k + 1, x16, x17, x18, x165000, x165001, x165002, x165003 => if x18 < x17 then (if 0 ≤ x18 then (if x18 < (x16.length : Int) then ((ip_decimal.f k (rdOf ByteArray.empty x16 x18)).bind fun bt169 => (if bt169.2 = true then (if x18 = 0 then (ip_V4.l0 k x16 x17 (wrap64 (x18 + 1)) bt169.1 x165001 x165002 x165003) else (if x18 = 1 then (ip_V4.l0 k x16 x17 (wrap64 (x18 + 1)) x165000 bt169.1 x165002 x165003) else (if x18 = 2 then (ip_V4.l0 k x16 x17 (wrap64 (x18 + 1)) x165000 x165001 bt169.1 x165003) else (if x18 = 3 then (ip_V4.l0 k x16 x17 (wrap64 (x18 + 1)) x165000 x165001 x165002 bt169.1) else (none))))) else (some (0, 0, 0, 0, false)))) else (none)) else (none)) else (some (x165000, x165001, x165002, x165003, true))
def ip_V4.f (k : Nat) (a0 : ByteArray) : Option (Int × Int × Int × Int × Bool) := (strings_Split.f a0 (⟨#[46]⟩ : ByteArray)).bind fun t165 => (if (t165.length : Int) = 4 then (ip_V4.l0 k t165 (t165.length : Int) 0 0 0 0 0) else (some (0, 0, 0, 0, false)))
theorem ip_V4.mono_l : ∀ k, (∀ y0 y1 y2 y3 y4 y5 y6, LeO (ip_V4.l0 k y0 y1 y2 y3 y4 y5 y6) (ip_V4.l0 (k + 1) y0 y1 y2 y3 y4 y5 y6))
  | 0 => fun _ _ _ _ _ _ _ r h => by simp [ip_V4.l0] at h
  | k + 1 => by
    have ih0 := ip_V4.mono_l k
    have m0 := @ip_decimal.mono
    · intro y0 y1 y2 y3 y4 y5 y6
      unfold ip_V4.l0
      exact xmo
theorem ip_V4.mono : ∀ a0 k, LeO (ip_V4.f k a0) (ip_V4.f (k + 1) a0) := by
  intro a0 k
  have ih0 := ip_V4.mono_l k
  have m0 := @ip_decimal.mono
  unfold ip_V4.f
  exact xmo
set_option maxHeartbeats 8000000 in
set_option maxRecDepth 100000 in
theorem ip_V4.calls (k : Nat) (a0 : ByteArray) (r1 : Int) (r2 : Int) (r3 : Int) (r4 : Int) (r5 : Bool) (w : World) (hG : GW w) (h : ip_V4.f k a0 = some (r1, r2, r3, r4, r5)) :
    Calls Tryd.prog 44 #[.string a0] w fun e w' => e = .returned (.tuple #[.agg #[.int .u8 r1, .int .u8 r2, .int .u8 r3, .int .u8 r4], .bool r5]) ∧ Below w.heap.size w w' := by
 have hu75 := Tryd.underlying75
 have HB := Aside0.mk (Below.refl w.heap.size w)
 have H : ((strings_Split.f a0 (⟨#[46]⟩ : ByteArray)).bind fun t165 => (if (t165.length : Int) = 4 then (ip_V4.l0 k t165 (t165.length : Int) 0 0 0 0 0) else (some (0, 0, 0, 0, false)))) = some (r1, r2, r3, r4, r5) := h
 clear h
 replace H := Option.bind_eq_some_iff.mp H
 obtain ⟨t165, A20, H⟩ := H
 try dsimp only at H
 have A2 := Aside0.mk A20
 clear A20
 by_cases c3 : (t165.length : Int) = 4
 ·
  rw [if_pos c3] at H
  have c3b0 : ((t165.length : Int) == 4) = true := beq_iff_eq.mpr c3
  have c3b1 : ((t165.length : Int) != 4) = false := bne_eq_false_iff_eq.mpr c3
  clear c3
  have H' := Aside0.mk H
  clear H
  go_enter Tryd.func44, Tryd.ntmps44
  go_wp2_with (first | ((with_reducible refine gate_dst (N := 2) rfl ?_); refine xev 2 #[.int .u8 0, .int .u8 0, .int .u8 0, .int .u8 0] 75 ?_; intro gb163 hg w4 hbox hb; have BK163 := Aside0.mk (hbox); have GW163 := xsz hg; have GE163 := GW163; replace HB := xst hb; clear hb hbox hg) | ((with_reducible refine gate_dst (N := 4) rfl ?_); refine xev 4 #[.int .u8 0, .int .u8 0, .int .u8 0, .int .u8 0] 75 ?_; intro gb164 hg w5 hbox hb; have BK164 := Aside0.mk (hbox); have GW164 := xsz hg; have GE164 := GW164; have NB163_164 := xlt (g := gb163) hg; have NB164_163 := xgt (g := gb163) hg; replace BK163 := xbb (g := gb163) (o := .cells #[.int .u8 0, .int .u8 0, .int .u8 0, .int .u8 0] 75 (0, 0)) hb; replace HB := xst hb; clear hb hbox hg) | ((with_reducible refine gate_callee (f := 52) rfl ?_); refine xgl 11 Tryd.func52 #[.string a0, .string (⟨#[46]⟩ : ByteArray)] ?_; (with_reducible refine (strings_Split.calls a0 (⟨#[46]⟩ : ByteArray) t165 _ ?side1 A2.out).mono ?_); (case side1 => first | (with_reducible exact hG) | exact GW_to hG xbl); rintro e w6 ⟨v166, rfl, ho0, hb⟩; refine ⟨_, rfl, ?_⟩; have HO167 := Aside0.mk (Kd.R_lower ho0 (below_size xbl)); replace BK163 := xbb (g := gb163) (o := .cells #[.int .u8 0, .int .u8 0, .int .u8 0, .int .u8 0] 75 (0, 0)) hb; replace BK164 := xbb (g := gb164) (o := .cells #[.int .u8 0, .int .u8 0, .int .u8 0, .int .u8 0] 75 (0, 0)) hb; replace HB := xst hb; (try clear hb); (try clear ho0); obtain ⟨Ao7, co7, eo7⟩ := Kd.R_slice HO167.out; subst eo7))
  go_loopg [18] k (fun kq v18 w' => ∃ (x18_1 : Int) (x164000_1 : Int) (x164001_1 : Int) (x164002_1 : Int) (x164003_1 : Int) (x165000_1 : Int) (x165001_1 : Int) (x165002_1 : Int) (x165003_1 : Int), v18 = .int .i64 x18_1 ∧ Aside0 (ip_V4.l0 kq t165 (t165.length : Int) x18_1 x165000_1 x165001_1 x165002_1 x165003_1 = some (r1, r2, r3, r4, r5)) ∧ Aside0 (kq ≤ k) ∧ Aside0 (Kd.R Kd.string 9 w' w.heap.size (fun _ => True) (.slice Ao7 t165.length co7) t165) ∧ Aside0 (w'.heap[gb163]? = some (.cells #[.int .u8 x164000_1, .int .u8 x164001_1, .int .u8 x164002_1, .int .u8 x164003_1] 75 (0, 0))) ∧ Aside0 (w'.heap[gb164]? = some (.cells #[.int .u8 x165000_1, .int .u8 x165001_1, .int .u8 x165002_1, .int .u8 x165003_1] 75 (0, 0))) ∧ Aside0 (Below w.heap.size w w'))
  case atStart => exact ⟨(0), (0), (0), (0), (0), (0), (0), (0), (0), xrr, H', ⟨Nat.le_refl _⟩, ⟨xkd HO167⟩, ⟨xbk⟩, ⟨xbk⟩, ⟨xbl⟩⟩
  case round =>
   clear H'
   clear c3b0 c3b1
   obtain ⟨x18_1, x164000_1, x164001_1, x164002_1, x164003_1, x165000_1, x165001_1, x165002_1, x165003_1, rfl, HA, HK1, HO_16, BK163, BK164, HB⟩ := hrel
   cases gk with
   | zero => exact absurd HA.out (by simp [ip_V4.l0])
   | succ k1 =>
    have H := HA.out
    clear HA
    simp only [ip_V4.l0] at H
    by_cases c8 : x18_1 < (t165.length : Int)
    ·
     rw [if_pos c8] at H
     have c8b0 := decide_eq_true c8
     clear c8
     by_cases c9 : 0 ≤ x18_1
     ·
      rw [if_pos c9] at H
      have c9b0 := decide_eq_true c9
      clear c9
      by_cases c10 : x18_1 < (t165.length : Int)
      ·
       rw [if_pos c10] at H
       have c10b0 := decide_eq_true c10
       clear c10
       replace H := Option.bind_eq_some_iff.mp H
       obtain ⟨⟨t169, t170⟩, A110, H⟩ := H
       try dsimp only at H
       have A11 := Aside0.mk A110
       clear A110
       by_cases c12 : t170 = true
       ·
        subst c12
        rw [if_pos rfl] at H
        by_cases c13 : x18_1 = 0
        ·
         subst c13
         rw [if_pos rfl] at H
         have H' := Aside0.mk H
         clear H
         have p168 : 0 ≤ (0 : Int) := (by omega)
         have q168 : 0 < (t165.length : Int) := xod
         obtain ⟨ad168, e168, hx168_0⟩ := Kd.at_string (Kd.R_reads' HO_16.out).2.2 0 p168 q168
         cases e168
         have qi168 : (0 < t165.length) = True := eq_true (by omega)
         (try rw [show ((0 : Int)).toNat = 0 from rfl] at hx168_0)
         (try rw [Addr.add_zero'] at hx168_0)
         replace p168 := eq_true p168
         replace q168 := eq_true q168
         try (have q168x := q168; simp only [ByteArray.size_extract, Nat.min_self] at q168x)
         go_wp2_with (first | ((with_reducible refine gate_callee (f := 53) rfl ?_); refine xgl 25 Tryd.func53 #[.string (rdOf ByteArray.empty t165 0)] ?_; (with_reducible refine (ip_decimal.calls k1 (rdOf ByteArray.empty t165 0) t169 true _ A11.out).mono ?_); rintro e w' ⟨rfl, ⟨nd, rfl⟩⟩; refine ⟨_, rfl, ?_⟩; (try (rw [drewN_self wr]; generalize hq_ : World.drewN wr _ = wr; have n0_ : Aside0 (Kd.R Kd.string 9 wr w.heap.size (fun _ => True) (.slice (some ad168) t165.length co7) t165) := ⟨by rw [← hq_]; exact (xkd HO_16)⟩; have n1_ : Aside0 (wr.heap[gb163]? = some (.cells #[.int .u8 x164000_1, .int .u8 x164001_1, .int .u8 x164002_1, .int .u8 x164003_1] 75 (0, 0))) := ⟨by rw [← hq_]; exact xbk⟩; have n2_ : Aside0 (wr.heap[gb164]? = some (.cells #[.int .u8 x165000_1, .int .u8 x165001_1, .int .u8 x165002_1, .int .u8 x165003_1] 75 (0, 0))) := ⟨by rw [← hq_]; exact xbk⟩; have n3_ : Aside0 (Below w.heap.size w wr) := ⟨by rw [← hq_]; exact xbl⟩; clear HO_16 BK163 BK164 HB hq_; have HO_16 := n0_; have BK163 := n1_; have BK164 := n2_; have HB := n3_; clear n0_ n1_ n2_ n3_)); have hnb14 := NB164_163.out; have hnc14 := NB163_164.out; obtain ⟨hcz15_0, hcz15_1, hcz15_2, hcz15_3⟩ := xc4 BK164; have hfz15_0 := xf BK164 0; have hfz15_1 := xf BK164 1; have hfz15_2 := xf BK164 2; have hfz15_3 := xf BK164 3))
         go_roundg k1
         case measure => have := HK1.out; omega
         case rel => exact ⟨(wrap64 (0 + 1)), (x164000_1), (x164001_1), (x164002_1), (x164003_1), (t169), (x165001_1), (x165002_1), (x165003_1), xrr, H', ⟨by have := HK1.out; omega⟩, ⟨by (with_reducible repeat (first | apply Kd.R_alloc | apply Kd.R_drewN | apply Kd.R_drew)); exact Kd.R_mono (Kd.R_far (p := ⟨gb164, 0, none⟩) (Kd.R_types HO_16.out BK164.out (by decide)) (fun _ hk => hk.2) (.int .u8 t169)) (fun _ hk => trivial)⟩, ⟨by (with_reducible repeat (first | refine blk_drewN ?_ _ | refine blk_drew ?_ | refine blk_alloc ?_ _)); refine blk_far ?_ NB163_164.out _; (with_reducible repeat (first | refine blk_drewN ?_ _ | refine blk_drew ?_ | refine blk_alloc ?_ _)); exact BK163.out⟩, ⟨by (with_reducible repeat (first | refine blk_drewN ?_ _ | refine blk_drew ?_ | refine blk_alloc ?_ _)); refine blk_put (cs := #[.int .u8 x165000_1, .int .u8 x165001_1, .int .u8 x165002_1, .int .u8 x165003_1]) ?_ 0 _ rfl; (with_reducible repeat (first | refine blk_drewN ?_ _ | refine blk_drew ?_ | refine blk_alloc ?_ _)); exact BK164.out⟩, ⟨xbl⟩⟩
        ·
         rw [if_neg c13] at H
         clear c13
         by_cases c16 : x18_1 = 1
         ·
          subst c16
          rw [if_pos rfl] at H
          have H' := Aside0.mk H
          clear H
          have p168 : 0 ≤ (1 : Int) := (by omega)
          have q168 : 1 < (t165.length : Int) := xod
          obtain ⟨ad168, e168, hx168_0⟩ := Kd.at_string (Kd.R_reads' HO_16.out).2.2 1 p168 q168
          cases e168
          (try simp only [show (1 : Int).toNat = 1 from rfl, Nat.reduceMul, Nat.reduceEqDiff, Go.Addr.add, ↓reduceIte] at hx168_0)
          have qi168 : (1 < t165.length) = True := eq_true (by omega)
          (try rw [show ((1 : Int)).toNat = 1 from rfl] at hx168_0)
          replace p168 := eq_true p168
          replace q168 := eq_true q168
          try (have q168x := q168; simp only [ByteArray.size_extract, Nat.min_self] at q168x)
          go_wp2_with (first | ((with_reducible refine gate_callee (f := 53) rfl ?_); refine xgl 25 Tryd.func53 #[.string (rdOf ByteArray.empty t165 1)] ?_; (with_reducible refine (ip_decimal.calls k1 (rdOf ByteArray.empty t165 1) t169 true _ A11.out).mono ?_); rintro e w' ⟨rfl, ⟨nd, rfl⟩⟩; refine ⟨_, rfl, ?_⟩; (try (rw [drewN_self wr]; generalize hq_ : World.drewN wr _ = wr; have n0_ : Aside0 (Kd.R Kd.string 9 wr w.heap.size (fun _ => True) (.slice (some ad168) t165.length co7) t165) := ⟨by rw [← hq_]; exact (xkd HO_16)⟩; have n1_ : Aside0 (wr.heap[gb163]? = some (.cells #[.int .u8 x164000_1, .int .u8 x164001_1, .int .u8 x164002_1, .int .u8 x164003_1] 75 (0, 0))) := ⟨by rw [← hq_]; exact xbk⟩; have n2_ : Aside0 (wr.heap[gb164]? = some (.cells #[.int .u8 x165000_1, .int .u8 x165001_1, .int .u8 x165002_1, .int .u8 x165003_1] 75 (0, 0))) := ⟨by rw [← hq_]; exact xbk⟩; have n3_ : Aside0 (Below w.heap.size w wr) := ⟨by rw [← hq_]; exact xbl⟩; clear HO_16 BK163 BK164 HB hq_; have HO_16 := n0_; have BK163 := n1_; have BK164 := n2_; have HB := n3_; clear n0_ n1_ n2_ n3_)); have hnb17 := NB164_163.out; have hnc17 := NB163_164.out; obtain ⟨hcz18_0, hcz18_1, hcz18_2, hcz18_3⟩ := xc4 BK164; have hfz18_0 := xf BK164 0; have hfz18_1 := xf BK164 1; have hfz18_2 := xf BK164 2; have hfz18_3 := xf BK164 3))
          go_roundg k1
          case measure => have := HK1.out; omega
          case rel => exact ⟨(wrap64 (1 + 1)), (x164000_1), (x164001_1), (x164002_1), (x164003_1), (x165000_1), (t169), (x165002_1), (x165003_1), xrr, H', ⟨by have := HK1.out; omega⟩, ⟨by (with_reducible repeat (first | apply Kd.R_alloc | apply Kd.R_drewN | apply Kd.R_drew)); exact Kd.R_mono (Kd.R_far (p := ⟨gb164, 1, none⟩) (Kd.R_types HO_16.out BK164.out (by decide)) (fun _ hk => hk.2) (.int .u8 t169)) (fun _ hk => trivial)⟩, ⟨by (with_reducible repeat (first | refine blk_drewN ?_ _ | refine blk_drew ?_ | refine blk_alloc ?_ _)); refine blk_far ?_ NB163_164.out _; (with_reducible repeat (first | refine blk_drewN ?_ _ | refine blk_drew ?_ | refine blk_alloc ?_ _)); exact BK163.out⟩, ⟨by (with_reducible repeat (first | refine blk_drewN ?_ _ | refine blk_drew ?_ | refine blk_alloc ?_ _)); refine blk_put (cs := #[.int .u8 x165000_1, .int .u8 x165001_1, .int .u8 x165002_1, .int .u8 x165003_1]) ?_ 1 _ rfl; (with_reducible repeat (first | refine blk_drewN ?_ _ | refine blk_drew ?_ | refine blk_alloc ?_ _)); exact BK164.out⟩, ⟨xbl⟩⟩
         ·
          rw [if_neg c16] at H
          clear c16
          by_cases c19 : x18_1 = 2
          ·
           subst c19
           rw [if_pos rfl] at H
           have H' := Aside0.mk H
           clear H
           have p168 : 0 ≤ (2 : Int) := (by omega)
           have q168 : 2 < (t165.length : Int) := xod
           obtain ⟨ad168, e168, hx168_0⟩ := Kd.at_string (Kd.R_reads' HO_16.out).2.2 2 p168 q168
           cases e168
           (try simp only [show (2 : Int).toNat = 2 from rfl, Nat.reduceMul, Nat.reduceEqDiff, Go.Addr.add, ↓reduceIte] at hx168_0)
           have qi168 : (2 < t165.length) = True := eq_true (by omega)
           (try rw [show ((2 : Int)).toNat = 2 from rfl] at hx168_0)
           replace p168 := eq_true p168
           replace q168 := eq_true q168
           try (have q168x := q168; simp only [ByteArray.size_extract, Nat.min_self] at q168x)
           go_wp2_with (first | ((with_reducible refine gate_callee (f := 53) rfl ?_); refine xgl 25 Tryd.func53 #[.string (rdOf ByteArray.empty t165 2)] ?_; (with_reducible refine (ip_decimal.calls k1 (rdOf ByteArray.empty t165 2) t169 true _ A11.out).mono ?_); rintro e w' ⟨rfl, ⟨nd, rfl⟩⟩; refine ⟨_, rfl, ?_⟩; (try (rw [drewN_self wr]; generalize hq_ : World.drewN wr _ = wr; have n0_ : Aside0 (Kd.R Kd.string 9 wr w.heap.size (fun _ => True) (.slice (some ad168) t165.length co7) t165) := ⟨by rw [← hq_]; exact (xkd HO_16)⟩; have n1_ : Aside0 (wr.heap[gb163]? = some (.cells #[.int .u8 x164000_1, .int .u8 x164001_1, .int .u8 x164002_1, .int .u8 x164003_1] 75 (0, 0))) := ⟨by rw [← hq_]; exact xbk⟩; have n2_ : Aside0 (wr.heap[gb164]? = some (.cells #[.int .u8 x165000_1, .int .u8 x165001_1, .int .u8 x165002_1, .int .u8 x165003_1] 75 (0, 0))) := ⟨by rw [← hq_]; exact xbk⟩; have n3_ : Aside0 (Below w.heap.size w wr) := ⟨by rw [← hq_]; exact xbl⟩; clear HO_16 BK163 BK164 HB hq_; have HO_16 := n0_; have BK163 := n1_; have BK164 := n2_; have HB := n3_; clear n0_ n1_ n2_ n3_)); have hnb20 := NB164_163.out; have hnc20 := NB163_164.out; obtain ⟨hcz21_0, hcz21_1, hcz21_2, hcz21_3⟩ := xc4 BK164; have hfz21_0 := xf BK164 0; have hfz21_1 := xf BK164 1; have hfz21_2 := xf BK164 2; have hfz21_3 := xf BK164 3))
           go_roundg k1
           case measure => have := HK1.out; omega
           case rel => exact ⟨(wrap64 (2 + 1)), (x164000_1), (x164001_1), (x164002_1), (x164003_1), (x165000_1), (x165001_1), (t169), (x165003_1), xrr, H', ⟨by have := HK1.out; omega⟩, ⟨by (with_reducible repeat (first | apply Kd.R_alloc | apply Kd.R_drewN | apply Kd.R_drew)); exact Kd.R_mono (Kd.R_far (p := ⟨gb164, 2, none⟩) (Kd.R_types HO_16.out BK164.out (by decide)) (fun _ hk => hk.2) (.int .u8 t169)) (fun _ hk => trivial)⟩, ⟨by (with_reducible repeat (first | refine blk_drewN ?_ _ | refine blk_drew ?_ | refine blk_alloc ?_ _)); refine blk_far ?_ NB163_164.out _; (with_reducible repeat (first | refine blk_drewN ?_ _ | refine blk_drew ?_ | refine blk_alloc ?_ _)); exact BK163.out⟩, ⟨by (with_reducible repeat (first | refine blk_drewN ?_ _ | refine blk_drew ?_ | refine blk_alloc ?_ _)); refine blk_put (cs := #[.int .u8 x165000_1, .int .u8 x165001_1, .int .u8 x165002_1, .int .u8 x165003_1]) ?_ 2 _ rfl; (with_reducible repeat (first | refine blk_drewN ?_ _ | refine blk_drew ?_ | refine blk_alloc ?_ _)); exact BK164.out⟩, ⟨xbl⟩⟩
          ·
           rw [if_neg c19] at H
           clear c19
           by_cases c22 : x18_1 = 3
           ·
            subst c22
            rw [if_pos rfl] at H
            have H' := Aside0.mk H
            clear H
            have p168 : 0 ≤ (3 : Int) := (by omega)
            have q168 : 3 < (t165.length : Int) := xod
            obtain ⟨ad168, e168, hx168_0⟩ := Kd.at_string (Kd.R_reads' HO_16.out).2.2 3 p168 q168
            cases e168
            (try simp only [show (3 : Int).toNat = 3 from rfl, Nat.reduceMul, Nat.reduceEqDiff, Go.Addr.add, ↓reduceIte] at hx168_0)
            have qi168 : (3 < t165.length) = True := eq_true (by omega)
            (try rw [show ((3 : Int)).toNat = 3 from rfl] at hx168_0)
            replace p168 := eq_true p168
            replace q168 := eq_true q168
            try (have q168x := q168; simp only [ByteArray.size_extract, Nat.min_self] at q168x)
            go_wp2_with (first | ((with_reducible refine gate_callee (f := 53) rfl ?_); refine xgl 25 Tryd.func53 #[.string (rdOf ByteArray.empty t165 3)] ?_; (with_reducible refine (ip_decimal.calls k1 (rdOf ByteArray.empty t165 3) t169 true _ A11.out).mono ?_); rintro e w' ⟨rfl, ⟨nd, rfl⟩⟩; refine ⟨_, rfl, ?_⟩; (try (rw [drewN_self wr]; generalize hq_ : World.drewN wr _ = wr; have n0_ : Aside0 (Kd.R Kd.string 9 wr w.heap.size (fun _ => True) (.slice (some ad168) t165.length co7) t165) := ⟨by rw [← hq_]; exact (xkd HO_16)⟩; have n1_ : Aside0 (wr.heap[gb163]? = some (.cells #[.int .u8 x164000_1, .int .u8 x164001_1, .int .u8 x164002_1, .int .u8 x164003_1] 75 (0, 0))) := ⟨by rw [← hq_]; exact xbk⟩; have n2_ : Aside0 (wr.heap[gb164]? = some (.cells #[.int .u8 x165000_1, .int .u8 x165001_1, .int .u8 x165002_1, .int .u8 x165003_1] 75 (0, 0))) := ⟨by rw [← hq_]; exact xbk⟩; have n3_ : Aside0 (Below w.heap.size w wr) := ⟨by rw [← hq_]; exact xbl⟩; clear HO_16 BK163 BK164 HB hq_; have HO_16 := n0_; have BK163 := n1_; have BK164 := n2_; have HB := n3_; clear n0_ n1_ n2_ n3_)); have hnb23 := NB164_163.out; have hnc23 := NB163_164.out; obtain ⟨hcz24_0, hcz24_1, hcz24_2, hcz24_3⟩ := xc4 BK164; have hfz24_0 := xf BK164 0; have hfz24_1 := xf BK164 1; have hfz24_2 := xf BK164 2; have hfz24_3 := xf BK164 3))
            go_roundg k1
            case measure => have := HK1.out; omega
            case rel => exact ⟨(wrap64 (3 + 1)), (x164000_1), (x164001_1), (x164002_1), (x164003_1), (x165000_1), (x165001_1), (x165002_1), (t169), xrr, H', ⟨by have := HK1.out; omega⟩, ⟨by (with_reducible repeat (first | apply Kd.R_alloc | apply Kd.R_drewN | apply Kd.R_drew)); exact Kd.R_mono (Kd.R_far (p := ⟨gb164, 3, none⟩) (Kd.R_types HO_16.out BK164.out (by decide)) (fun _ hk => hk.2) (.int .u8 t169)) (fun _ hk => trivial)⟩, ⟨by (with_reducible repeat (first | refine blk_drewN ?_ _ | refine blk_drew ?_ | refine blk_alloc ?_ _)); refine blk_far ?_ NB163_164.out _; (with_reducible repeat (first | refine blk_drewN ?_ _ | refine blk_drew ?_ | refine blk_alloc ?_ _)); exact BK163.out⟩, ⟨by (with_reducible repeat (first | refine blk_drewN ?_ _ | refine blk_drew ?_ | refine blk_alloc ?_ _)); refine blk_put (cs := #[.int .u8 x165000_1, .int .u8 x165001_1, .int .u8 x165002_1, .int .u8 x165003_1]) ?_ 3 _ rfl; (with_reducible repeat (first | refine blk_drewN ?_ _ | refine blk_drew ?_ | refine blk_alloc ?_ _)); exact BK164.out⟩, ⟨xbl⟩⟩
           ·
            rw [if_neg c22] at H
            clear c22
            exact absurd H (by simp)
       ·
        replace c12 := Bool.eq_false_iff.mpr c12
        subst c12
        rw [if_neg (show ¬ (false = true) by decide)] at H
        simp only [Option.some.injEq, Prod.mk.injEq] at H
        obtain ⟨rfl, rfl, rfl, rfl, rfl⟩ := H
        have p168 : 0 ≤ (x18_1 : Int) := xod
        have q168 : x18_1 < (t165.length : Int) := xod
        obtain ⟨ad168, e168, hx168_0⟩ := Kd.at_string (Kd.R_reads' HO_16.out).2.2 x18_1 p168 q168
        cases e168
        replace p168 := eq_true p168
        replace q168 := eq_true q168
        try (have q168x := q168; simp only [ByteArray.size_extract, Nat.min_self] at q168x)
        go_wp2_with (first | ((with_reducible refine gate_callee (f := 53) rfl ?_); refine xgl 25 Tryd.func53 #[.string (rdOf ByteArray.empty t165 x18_1)] ?_; (with_reducible refine (ip_decimal.calls k1 (rdOf ByteArray.empty t165 x18_1) t169 false _ A11.out).mono ?_); rintro e w' ⟨rfl, ⟨nd, rfl⟩⟩; refine ⟨_, rfl, ?_⟩; (try (rw [drewN_self wr]; generalize hq_ : World.drewN wr _ = wr; have n0_ : Aside0 (Kd.R Kd.string 9 wr w.heap.size (fun _ => True) (.slice (some ad168) t165.length co7) t165) := ⟨by rw [← hq_]; exact (xkd HO_16)⟩; have n1_ : Aside0 (wr.heap[gb163]? = some (.cells #[.int .u8 x164000_1, .int .u8 x164001_1, .int .u8 x164002_1, .int .u8 x164003_1] 75 (0, 0))) := ⟨by rw [← hq_]; exact xbk⟩; have n2_ : Aside0 (wr.heap[gb164]? = some (.cells #[.int .u8 x165000_1, .int .u8 x165001_1, .int .u8 x165002_1, .int .u8 x165003_1] 75 (0, 0))) := ⟨by rw [← hq_]; exact xbk⟩; have n3_ : Aside0 (Below w.heap.size w wr) := ⟨by rw [← hq_]; exact xbl⟩; clear HO_16 BK163 BK164 HB hq_; have HO_16 := n0_; have BK163 := n1_; have BK164 := n2_; have HB := n3_; clear n0_ n1_ n2_ n3_)); have hnb25 := NB163_164.out; have hnc25 := NB164_163.out; obtain ⟨hcz26_0, hcz26_1, hcz26_2, hcz26_3⟩ := xc4 BK163; have hfz26_0 := xf BK163 0; have hfz26_1 := xf BK163 1; have hfz26_2 := xf BK163 2; have hfz26_3 := xf BK163 3))
        refine bodyPost_ret (results_ct rfl _ _ gb163 75 #[.int .u8 0, .int .u8 0, .int .u8 0, .int .u8 0] (0, 0) _ rfl xbk Tryd.underlying75 rfl (by kernel_rfl)) rfl ?_
        exact ⟨xre, xbl⟩
      ·
       rw [if_neg c10] at H
       exact absurd H (by simp)
     ·
      rw [if_neg c9] at H
      exact absurd H (by simp)
    ·
     rw [if_neg c8] at H
     have c8b0 := decide_eq_false c8
     clear c8
     simp only [Option.some.injEq, Prod.mk.injEq] at H
     obtain ⟨rfl, rfl, rfl, rfl, rfl⟩ := H
     have hnb27 := NB164_163.out
     have hnc27 := NB163_164.out
     obtain ⟨hcz28_0, hcz28_1, hcz28_2, hcz28_3⟩ := xc4 BK164
     have hfz28_0 := xf BK164 0
     have hfz28_1 := xf BK164 1
     have hfz28_2 := xf BK164 2
     have hfz28_3 := xf BK164 3
     obtain ⟨hcz29_0, hcz29_1, hcz29_2, hcz29_3⟩ := xc4 BK163
     have hfz29_0 := xf BK163 0
     have hfz29_1 := xf BK163 1
     have hfz29_2 := xf BK163 2
     have hfz29_3 := xf BK163 3
     go_wp2
     refine bodyPost_ret (results_ct rfl _ _ gb163 75 #[.int .u8 x165000_1, .int .u8 x165001_1, .int .u8 x165002_1, .int .u8 x165003_1] (0, 0) _ rfl xbk Tryd.underlying75 rfl (by kernel_rfl)) rfl ?_
     exact ⟨xre, xbl⟩
 ·
  rw [if_neg c3] at H
  have c3b0 : ((t165.length : Int) == 4) = false := beq_eq_false_iff_ne.mpr c3
  have c3b1 : ((t165.length : Int) != 4) = true := bne_iff_ne.mpr c3
  simp only [Option.some.injEq, Prod.mk.injEq] at H
  obtain ⟨rfl, rfl, rfl, rfl, rfl⟩ := H
  go_enter Tryd.func44, Tryd.ntmps44
  go_wp2_with (first | ((with_reducible refine gate_dst (N := 2) rfl ?_); refine xev 2 #[.int .u8 0, .int .u8 0, .int .u8 0, .int .u8 0] 75 ?_; intro gb163 hg w30 hbox hb; have BK163 := Aside0.mk (hbox); have GW163 := xsz hg; have GE163 := GW163; replace HB := xst hb; clear hb hbox hg) | ((with_reducible refine gate_dst (N := 4) rfl ?_); refine xev 4 #[.int .u8 0, .int .u8 0, .int .u8 0, .int .u8 0] 75 ?_; intro gb164 hg w31 hbox hb; have BK164 := Aside0.mk (hbox); have GW164 := xsz hg; have GE164 := GW164; have NB163_164 := xlt (g := gb163) hg; have NB164_163 := xgt (g := gb163) hg; replace BK163 := xbb (g := gb163) (o := .cells #[.int .u8 0, .int .u8 0, .int .u8 0, .int .u8 0] 75 (0, 0)) hb; replace HB := xst hb; clear hb hbox hg) | ((with_reducible refine gate_callee (f := 52) rfl ?_); refine xgl 11 Tryd.func52 #[.string a0, .string (⟨#[46]⟩ : ByteArray)] ?_; (with_reducible refine (strings_Split.calls a0 (⟨#[46]⟩ : ByteArray) t165 _ ?side1 A2.out).mono ?_); (case side1 => first | (with_reducible exact hG) | exact GW_to hG xbl); rintro e w32 ⟨v166, rfl, ho0, hb⟩; refine ⟨_, rfl, ?_⟩; have HO167 := Aside0.mk (Kd.R_lower ho0 (below_size xbl)); replace BK163 := xbb (g := gb163) (o := .cells #[.int .u8 0, .int .u8 0, .int .u8 0, .int .u8 0] 75 (0, 0)) hb; replace BK164 := xbb (g := gb164) (o := .cells #[.int .u8 0, .int .u8 0, .int .u8 0, .int .u8 0] 75 (0, 0)) hb; replace HB := xst hb; (try clear hb); (try clear ho0); obtain ⟨Ao33, co33, eo33⟩ := Kd.R_slice HO167.out; subst eo33; have hnb34 := NB164_163.out; have hnc34 := NB163_164.out; obtain ⟨hcz35_0, hcz35_1, hcz35_2, hcz35_3⟩ := xc4 BK164; have hfz35_0 := xf BK164 0; have hfz35_1 := xf BK164 1; have hfz35_2 := xf BK164 2; have hfz35_3 := xf BK164 3; obtain ⟨hcz36_0, hcz36_1, hcz36_2, hcz36_3⟩ := xc4 BK163; have hfz36_0 := xf BK163 0; have hfz36_1 := xf BK163 1; have hfz36_2 := xf BK163 2; have hfz36_3 := xf BK163 3))
  refine bodyPost_ret (results_ct rfl _ _ gb163 75 #[.int .u8 0, .int .u8 0, .int .u8 0, .int .u8 0] (0, 0) _ rfl xbk Tryd.underlying75 rfl (by kernel_rfl)) rfl ?_
  exact ⟨xre, xbl⟩
mutual
def ip_word.j0 : Nat → ByteArray → Bool → Option (Int × Bool)
  | 0, _, _ => none
  | k + 1, x0, x15 => if x15 = true then (some (0, false)) else (ip_word.l0 k x0 0 (x0.size : Int) 0)
def ip_word.l0 : Nat → ByteArray → Int → Int → Int → Option (Int × Bool)
  | 0, _, _, _, _ => none
  | k + 1, x0, x4, x17, x18 => if x18 < x17 then (if 0 ≤ x18 then (if x18 < (x0.size : Int) then ((octet_Value.f k (bt x0 x18)).bind fun bt171 => (if bt171.2 = true then (ip_word.l0 k x0 (Go.bits .or .i64 (wrap64 (x4 * 16)) bt171.1) x17 (wrap64 (x18 + 1))) else (some (0, false)))) else (none)) else (none)) else (some (IntKind.u16.wrap (x4), true))
end
def ip_word.f (k : Nat) (a0 : ByteArray) : Option (Int × Bool) := if (a0.size : Int) = 0 then (ip_word.j0 k a0 true) else (ip_word.j0 k a0 (decide ((a0.size : Int) > 4)))
theorem ip_word.mono_l : ∀ k, (∀ y0 y1, LeO (ip_word.j0 k y0 y1) (ip_word.j0 (k + 1) y0 y1)) ∧ (∀ y0 y1 y2 y3, LeO (ip_word.l0 k y0 y1 y2 y3) (ip_word.l0 (k + 1) y0 y1 y2 y3))
  | 0 => ⟨fun _ _ r h => by simp [ip_word.j0] at h, fun _ _ _ _ r h => by simp [ip_word.l0] at h⟩
  | k + 1 => by
    obtain ⟨ih0, ih1⟩ := ip_word.mono_l k
    have m0 := @octet_Value.mono
    refine ⟨?_, ?_⟩
    · intro y0 y1
      unfold ip_word.j0
      exact xmo
    · intro y0 y1 y2 y3
      unfold ip_word.l0
      exact xmo
theorem ip_word.mono : ∀ a0 k, LeO (ip_word.f k a0) (ip_word.f (k + 1) a0) := by
  intro a0 k
  obtain ⟨ih0, ih1⟩ := ip_word.mono_l k
  have m0 := @octet_Value.mono
  unfold ip_word.f
  exact xmo
set_option maxHeartbeats 8000000 in
set_option maxRecDepth 100000 in
theorem ip_word.calls (k : Nat) (a0 : ByteArray) (r1 : Int) (r2 : Bool) (w : World) (h : ip_word.f k a0 = some (r1, r2)) :
    Calls Tryd.prog 57 #[.string a0] w fun e w' => e = .returned (.tuple #[.int .u16 r1, .bool r2]) ∧ Drawn0 w w' := by
 have H : (if (a0.size : Int) = 0 then (ip_word.j0 k a0 true) else (ip_word.j0 k a0 (decide ((a0.size : Int) > 4)))) = some (r1, r2) := h
 clear h
 have HC2 := Aside0.mk H
 clear H
 go_enter Tryd.func57, Tryd.ntmps57
 go_upto_region 1 with (fail)
 go_cut [15] (fun v15 wc => ∃ (kq : Nat) (x15_1 : Bool), v15 = .bool x15_1 ∧ Aside0 (ip_word.j0 kq a0 x15_1 = some (r1, r2)) ∧ Aside0 (kq ≤ k) ∧ Drawn0 w wc)
 case first =>
  have H := HC2.out
  clear HC2
  by_cases c3 : (a0.size : Int) = 0
  ·
   rw [if_pos c3] at H
   have c3b0 : ((a0.size : Int) == 0) = true := beq_iff_eq.mpr c3
   have c3b1 : ((a0.size : Int) != 0) = false := bne_eq_false_iff_eq.mpr c3
   clear c3
   (first | rw [c3b0] | (simp only [i64_w, i32_w]; rw [c3b0]) | (rw [c3b2]; (try simp only [Bool.not_false, Bool.not_true])) | (rw [c3b3]; (try simp only [Bool.not_false, Bool.not_true])) | skip)
   have H' := Aside0.mk H
   clear H
   go_wp2
   go_meet
   case rel => exact ⟨_, (true), xrr, H', ⟨xom⟩, xdr⟩
  ·
   rw [if_neg c3] at H
   have c3b0 : ((a0.size : Int) == 0) = false := beq_eq_false_iff_ne.mpr c3
   have c3b1 : ((a0.size : Int) != 0) = true := bne_iff_ne.mpr c3
   (first | rw [c3b0] | (simp only [i64_w, i32_w]; rw [c3b0]) | (rw [c3b2]; (try simp only [Bool.not_false, Bool.not_true])) | (rw [c3b3]; (try simp only [Bool.not_false, Bool.not_true])) | skip)
   have H' := Aside0.mk H
   clear H
   go_wp2
   go_meet
   case rel => exact ⟨_, (decide ((a0.size : Int) > 4)), xrr, H', ⟨xom⟩, xdr⟩
 case rest =>
  clear HC2
  obtain ⟨kq, x15_1, rfl, HA, HJ1, ⟨mc1, rfl⟩⟩ := hcut
  cases kq with
  | zero => exact absurd HA.out (by simp [ip_word.j0])
  | succ kj1 =>
   have H := HA.out
   clear HA
   simp only [ip_word.j0] at H
   by_cases c4 : x15_1 = true
   ·
    subst c4
    rw [if_pos rfl] at H
    simp only [Option.some.injEq, Prod.mk.injEq] at H
    obtain ⟨rfl, rfl⟩ := H
    go_wp2
    go_ret2
    exact ⟨xrr, xdr⟩
   ·
    replace c4 := Bool.eq_false_iff.mpr c4
    subst c4
    rw [if_neg (show ¬ (false = true) by decide)] at H
    have H' := Aside0.mk H
    clear H
    go_wp2
    go_loopg [4, 18] kj1 (fun kq v4 v18 w' => ∃ (x4_2 : Int) (x18_2 : Int), v4 = .int .i64 x4_2 ∧ v18 = .int .i64 x18_2 ∧ Aside0 (ip_word.l0 kq a0 x4_2 (a0.size : Int) x18_2 = some (r1, r2)) ∧ Aside0 (kq ≤ kj1) ∧ Drawn0 w w')
    case atStart => exact ⟨(0), (0), xrr, xrr, H', ⟨Nat.le_refl _⟩, xdr⟩
    case round =>
     clear H'
     obtain ⟨x4_2, x18_2, rfl, rfl, HA, HK2, ⟨m2, rfl⟩⟩ := hrel
     cases gk with
     | zero => exact absurd HA.out (by simp [ip_word.l0])
     | succ k2 =>
      have H := HA.out
      clear HA
      simp only [ip_word.l0] at H
      by_cases c5 : x18_2 < (a0.size : Int)
      ·
       rw [if_pos c5] at H
       have c5b0 := decide_eq_true c5
       clear c5
       by_cases c6 : 0 ≤ x18_2
       ·
        rw [if_pos c6] at H
        have c6b0 := decide_eq_true c6
        clear c6
        by_cases c7 : x18_2 < (a0.size : Int)
        ·
         rw [if_pos c7] at H
         have c7b0 := decide_eq_true c7
         clear c7
         replace H := Option.bind_eq_some_iff.mp H
         obtain ⟨⟨t171, t172⟩, A90, H⟩ := H
         try dsimp only at H
         have A9 := Aside0.mk A90
         clear A90
         by_cases c10 : t172 = true
         ·
          subst c10
          rw [if_pos rfl] at H
          have H' := Aside0.mk H
          clear H
          have p8 : 0 ≤ (x18_2 : Int) := xod
          have q8 : x18_2 < (a0.size : Int) := xod
          have hx8 := bt_at a0 x18_2
          replace p8 := eq_true p8
          replace q8 := eq_true q8
          try (have q8x := q8; simp only [ByteArray.size_extract, Nat.min_self] at q8x)
          go_wp2_with (first | ((with_reducible refine gate_callee (f := 45) rfl ?_); refine xgl 25 Tryd.func45 #[.int .u8 (bt a0 x18_2)] ?_; (with_reducible refine (octet_Value.calls k2 (bt a0 x18_2) t171 true _ A9.out).mono ?_); rintro e w' ⟨rfl, ⟨nd, rfl⟩⟩; refine ⟨_, rfl, ?_⟩))
          go_roundg k2
          case measure => have := HJ1.out; have := HK2.out; omega
          case rel => exact ⟨(Go.bits .or .i64 (wrap64 (x4_2 * 16)) t171), (wrap64 (x18_2 + 1)), xrr, xrr, H', ⟨by have := HJ1.out; have := HK2.out; omega⟩, xdr⟩
         ·
          replace c10 := Bool.eq_false_iff.mpr c10
          subst c10
          rw [if_neg (show ¬ (false = true) by decide)] at H
          simp only [Option.some.injEq, Prod.mk.injEq] at H
          obtain ⟨rfl, rfl⟩ := H
          have p8 : 0 ≤ (x18_2 : Int) := xod
          have q8 : x18_2 < (a0.size : Int) := xod
          have hx8 := bt_at a0 x18_2
          replace p8 := eq_true p8
          replace q8 := eq_true q8
          try (have q8x := q8; simp only [ByteArray.size_extract, Nat.min_self] at q8x)
          go_wp2_with (first | ((with_reducible refine gate_callee (f := 45) rfl ?_); refine xgl 25 Tryd.func45 #[.int .u8 (bt a0 x18_2)] ?_; (with_reducible refine (octet_Value.calls k2 (bt a0 x18_2) t171 false _ A9.out).mono ?_); rintro e w' ⟨rfl, ⟨nd, rfl⟩⟩; refine ⟨_, rfl, ?_⟩))
          go_ret2
          exact ⟨xrr, xdr⟩
        ·
         rw [if_neg c7] at H
         exact absurd H (by simp)
       ·
        rw [if_neg c6] at H
        exact absurd H (by simp)
      ·
       rw [if_neg c5] at H
       have c5b0 := decide_eq_false c5
       clear c5
       simp only [Option.some.injEq, Prod.mk.injEq] at H
       obtain ⟨rfl, rfl⟩ := H
       go_wp2
       go_ret2
       exact ⟨xrr, xdr⟩
mutual
def ip_words.l0 : Nat → Bool → List Int → List ByteArray → List ByteArray → Int → Int → Option (List Int × Bool)
  | 0, _, _, _, _, _, _ => none
  | k + 1, x1, x6, x7, x18, x19, x20 => if x20 < x19 then (if 0 ≤ x20 then (if x20 < (x18.length : Int) then ((ip_V4.f k (rdOf ByteArray.empty x18 x20)).bind fun bt177 => (if bt177.2.2.2.2 = true then (if x1 = true then (ip_words.j1 k x1 x6 x7 (rdOf ByteArray.empty x18 x20) x18 x19 x20 (x20 == (wrap64 ((x7.length : Int) - 1))) bt177.1 bt177.2.1 bt177.2.2.1 bt177.2.2.2.1) else (ip_words.j1 k x1 x6 x7 (rdOf ByteArray.empty x18 x20) x18 x19 x20 false bt177.1 bt177.2.1 bt177.2.2.1 bt177.2.2.2.1)) else (ip_words.j1 k x1 x6 x7 (rdOf ByteArray.empty x18 x20) x18 x19 x20 false bt177.1 bt177.2.1 bt177.2.2.1 bt177.2.2.2.1))) else (none)) else (none)) else (some (x6, true))
def ip_words.j1 : Nat → Bool → List Int → List ByteArray → ByteArray → List ByteArray → Int → Int → Bool → Int → Int → Int → Int → Option (List Int × Bool)
  | 0, _, _, _, _, _, _, _, _, _, _, _, _ => none
  | k + 1, x1, x6, x7, x9, x18, x19, x20, x40, x183000, x183001, x183002, x183003 => if x40 = true then ((some (([Go.bits .or .u16 (IntKind.u16.wrap ((IntKind.u16.wrap (x183000)) * 256)) (IntKind.u16.wrap (x183001)), Go.bits .or .u16 (IntKind.u16.wrap ((IntKind.u16.wrap (x183002)) * 256)) (IntKind.u16.wrap (x183003))] : List Int) : List Int)).bind fun y183 => (if x6.length + y183.length < 70368744177664 then (some ((x6 ++ y183), true)) else (none))) else ((ip_word.f k x9).bind fun bt189 => (if bt189.2 = true then (if x6.length < 70368744177664 then (ip_words.l0 k x1 (x6 ++ [bt189.1]) x7 x18 x19 (wrap64 (x20 + 1))) else (none)) else (some (([] : List Int), false))))
end
def ip_words.f (k : Nat) (a0 : ByteArray) (a1 : Bool) : Option (List Int × Bool) := if a0.toList = ([] : List UInt8) then (some (([] : List Int), true)) else ((strings_Split.f a0 (⟨#[58]⟩ : ByteArray)).bind fun t173 => (ip_words.l0 k a1 ([] : List Int) t173 t173 (t173.length : Int) 0))
theorem ip_words.mono_l : ∀ k, (∀ y0 y1 y2 y3 y4 y5, LeO (ip_words.l0 k y0 y1 y2 y3 y4 y5) (ip_words.l0 (k + 1) y0 y1 y2 y3 y4 y5)) ∧ (∀ y0 y1 y2 y3 y4 y5 y6 y7 y8 y9 y10 y11, LeO (ip_words.j1 k y0 y1 y2 y3 y4 y5 y6 y7 y8 y9 y10 y11) (ip_words.j1 (k + 1) y0 y1 y2 y3 y4 y5 y6 y7 y8 y9 y10 y11))
  | 0 => ⟨fun _ _ _ _ _ _ r h => by simp [ip_words.l0] at h, fun _ _ _ _ _ _ _ _ _ _ _ _ r h => by simp [ip_words.j1] at h⟩
  | k + 1 => by
    obtain ⟨ih0, ih1⟩ := ip_words.mono_l k
    have m0 := @ip_V4.mono; have m1 := @ip_word.mono
    refine ⟨?_, ?_⟩
    · intro y0 y1 y2 y3 y4 y5
      unfold ip_words.l0
      exact xmo
    · intro y0 y1 y2 y3 y4 y5 y6 y7 y8 y9 y10 y11
      unfold ip_words.j1
      exact xmo
theorem ip_words.mono : ∀ a0 a1 k, LeO (ip_words.f k a0 a1) (ip_words.f (k + 1) a0 a1) := by
  intro a0 a1 k
  obtain ⟨ih0, ih1⟩ := ip_words.mono_l k
  have m0 := @ip_V4.mono; have m1 := @ip_word.mono
  unfold ip_words.f
  exact xmo
set_option maxHeartbeats 8000000 in
set_option maxRecDepth 100000 in
theorem ip_words.calls (k : Nat) (a0 : ByteArray) (a1 : Bool) (r1 : List Int) (r2 : Bool) (w : World) (hG : GW w) (h : ip_words.f k a0 a1 = some (r1, r2)) :
    Calls Tryd.prog 51 #[.string a0, .bool a1] w fun e w' => ∃ v0_ : Value, e = .returned (.tuple #[v0_, .bool r2]) ∧ Kd.R (Kd.int .u16) 71 w' w.heap.size (fun _ => True) v0_ r1 ∧ Below w.heap.size w w' := by
 have hu75 := Tryd.underlying75
 have HB := Aside0.mk (Below.refl w.heap.size w)
 have H : (if a0.toList = ([] : List UInt8) then (some (([] : List Int), true)) else ((strings_Split.f a0 (⟨#[58]⟩ : ByteArray)).bind fun t173 => (ip_words.l0 k a1 ([] : List Int) t173 t173 (t173.length : Int) 0))) = some (r1, r2) := h
 clear h
 by_cases c3 : a0.toList = ([] : List UInt8)
 ·
  rw [if_pos c3] at H
  have c3b0 : (a0.toList == ([] : List UInt8)) = true := beq_iff_eq.mpr c3
  have c3b1 : (a0.toList != ([] : List UInt8)) = false := bne_eq_false_iff_eq.mpr c3
  (try (have c3b2 : a0.toList.isEmpty = true := by simpa using c3))
  clear c3
  simp only [Option.some.injEq, Prod.mk.injEq] at H
  obtain ⟨rfl, rfl⟩ := H
  go_enter Tryd.func51, Tryd.ntmps51
  go_wp2
  go_ret2
  exact ⟨_, by first | rfl | (simp [errW_none, errW_some] <;> first | rfl | (simp only [xp_isEmpty, bne, Bool.not_not]; done)) | (simp [*, errW_none, errW_some] <;> rfl), by first | exact Kd.R_nil _ _ _ _ _ | exact Kd.N_nil _ _ _ _ _ | exact Kd.V_nil _ _ _ _ _ | exact Kd.Q_nil _ _ _ _ _ | exact Kd.S_nil _ _ _ _ _, xbl⟩
 ·
  rw [if_neg c3] at H
  have c3b0 : (a0.toList == ([] : List UInt8)) = false := beq_eq_false_iff_ne.mpr c3
  have c3b1 : (a0.toList != ([] : List UInt8)) = true := bne_iff_ne.mpr c3
  (try (have c3b2 : a0.toList.isEmpty = false := by simpa using c3))
  replace H := Option.bind_eq_some_iff.mp H
  obtain ⟨t173, A40, H⟩ := H
  try dsimp only at H
  have A4 := Aside0.mk A40
  clear A40
  have H' := Aside0.mk H
  clear H
  go_enter Tryd.func51, Tryd.ntmps51
  go_wp2_with (first | ((with_reducible refine gate_callee (f := 52) rfl ?_); refine xgl 17 Tryd.func52 #[.string a0, .string (⟨#[58]⟩ : ByteArray)] ?_; (with_reducible refine (strings_Split.calls a0 (⟨#[58]⟩ : ByteArray) t173 _ ?side1 A4.out).mono ?_); (case side1 => first | (with_reducible exact hG) | exact GW_to hG xbl); rintro e w5 ⟨v174, rfl, ho0, hb⟩; refine ⟨_, rfl, ?_⟩; have HO175 := Aside0.mk (Kd.R_lower ho0 (below_size xbl)); replace HB := xst hb; (try clear hb); (try clear ho0); obtain ⟨Ao6, co6, eo6⟩ := Kd.R_slice HO175.out; subst eo6))
  go_loopg [6, 20] k (fun kq v6 v20 w' => ∃ (x6_1 : List Int) (x20_1 : Int), v20 = .int .i64 x20_1 ∧ Aside0 (ip_words.l0 kq a1 x6_1 t173 t173 (t173.length : Int) x20_1 = some (r1, r2)) ∧ Aside0 (kq ≤ k) ∧ Aside0 (Kd.R (Kd.int .u16) 71 w' w.heap.size (fun _ => True) v6 x6_1) ∧ Aside0 (Kd.R Kd.string 9 w' w.heap.size (fun _ => True) (.slice Ao6 t173.length co6) t173) ∧ Aside0 (Kd.R Kd.string 9 w' w.heap.size (fun _ => True) (.slice Ao6 t173.length co6) t173) ∧ Aside0 (Below w.heap.size w w'))
  case atStart => exact ⟨(([] : List Int)), (0), xrr, H', ⟨Nat.le_refl _⟩, ⟨by first | exact Kd.R_nil _ _ _ _ _ | exact Kd.N_nil _ _ _ _ _ | exact Kd.V_nil _ _ _ _ _ | exact Kd.Q_nil _ _ _ _ _ | exact Kd.S_nil _ _ _ _ _⟩, ⟨xkd HO175⟩, ⟨xkd HO175⟩, ⟨xbl⟩⟩
  case round =>
   clear H'
   clear c3b0 c3b1
   obtain ⟨x6_1, x20_1, rfl, HA, HK1, HO_6, HO_7, HO_18, HB⟩ := hrel
   cases gk with
   | zero => exact absurd HA.out (by simp [ip_words.l0])
   | succ k1 =>
    have H := HA.out
    clear HA
    simp only [ip_words.l0] at H
    by_cases c7 : x20_1 < (t173.length : Int)
    ·
     rw [if_pos c7] at H
     have c7b0 := decide_eq_true c7
     clear c7
     by_cases c8 : 0 ≤ x20_1
     ·
      rw [if_pos c8] at H
      have c8b0 := decide_eq_true c8
      clear c8
      by_cases c9 : x20_1 < (t173.length : Int)
      ·
       rw [if_pos c9] at H
       have c9b0 := decide_eq_true c9
       clear c9
       replace H := Option.bind_eq_some_iff.mp H
       obtain ⟨⟨t177, t178, t179, t180, t181⟩, A100, H⟩ := H
       try dsimp only at H
       have A10 := Aside0.mk A100
       clear A100
       have HC11 := Aside0.mk H
       clear H
       have p176 : 0 ≤ (x20_1 : Int) := xod
       have q176 : x20_1 < (t173.length : Int) := xod
       obtain ⟨ad176, e176, hx176_0⟩ := Kd.at_string (Kd.R_reads' HO_18.out).2.2 x20_1 p176 q176
       cases e176
       replace p176 := eq_true p176
       replace q176 := eq_true q176
       try (have q176x := q176; simp only [ByteArray.size_extract, Nat.min_self] at q176x)
       go_upto_region 9 with (first | ((with_reducible refine gate_callee (f := 44) rfl ?_); refine xgl 27 Tryd.func44 #[.string (rdOf ByteArray.empty t173 x20_1)] ?_; (with_reducible refine (ip_V4.calls k1 (rdOf ByteArray.empty t173 x20_1) t177 t178 t179 t180 t181 _ ?side1 A10.out).mono ?_); (case side1 => first | (with_reducible exact hG) | exact GW_to hG xbl); rintro e w12 ⟨rfl, hb⟩; refine ⟨_, rfl, ?_⟩; replace HO_6 := Aside0.mk (Kd.R_below (xkd HO_6) hb); replace HO_7 := Aside0.mk (Kd.R_below (xkd HO_7) hb); replace HO_18 := Aside0.mk (Kd.R_below (xkd HO_18) hb); replace HB := xst hb; (try clear hb)) | ((with_reducible refine gate_dst (N := 10) rfl ?_); (try (refine gate_guard (by rfl) ?_; dsimp only)); refine xev 10 #[.int .u8 0, .int .u8 0, .int .u8 0, .int .u8 0] 75 ?_; intro gb182 hg w13 hbox hb; have BK182 := Aside0.mk (hbox); have GW182 := xsz hg; have GE182 := GW182; replace HO_6 := Aside0.mk (Kd.R_below (xkd HO_6) hb); replace HO_7 := Aside0.mk (Kd.R_below (xkd HO_7) hb); replace HO_18 := Aside0.mk (Kd.R_below (xkd HO_18) hb); replace HB := xst hb; clear hb hbox hg; obtain ⟨hcz14_0, hcz14_1, hcz14_2, hcz14_3⟩ := xc4 BK182; have hfz14_0 := xf BK182 0; have hfz14_1 := xf BK182 1; have hfz14_2 := xf BK182 2; have hfz14_3 := xf BK182 3))
       (try simp only [Act.put, List.setIfInBounds_toArray, List.set_cons_zero, List.set_cons_succ])
       go_cut [40] (fun v40 wc => ∃ (kq : Nat) (x40_10 : Bool), v40 = .bool x40_10 ∧ Aside0 (ip_words.j1 kq a1 x6_1 t173 (rdOf ByteArray.empty t173 x20_1) t173 (t173.length : Int) x20_1 x40_10 t177 t178 t179 t180 = some (r1, r2)) ∧ Aside0 (kq ≤ k1) ∧ Aside0 (Kd.R (Kd.int .u16) 71 wc w.heap.size (fun _ => True) u6 x6_1) ∧ Aside0 (Kd.R Kd.string 9 wc w.heap.size (fun _ => True) (.slice (some ad176) t173.length co6) t173) ∧ Aside0 (Kd.R Kd.string 9 wc w.heap.size (fun _ => True) (.slice (some ad176) t173.length co6) t173) ∧ Aside0 (wc.heap[gb182]? = some (.cells #[.int .u8 t177, .int .u8 t178, .int .u8 t179, .int .u8 t180] 75 (0, 0))) ∧ Aside0 (Below w.heap.size w wc))
       case first =>
        have H := HC11.out
        clear HC11
        by_cases c15 : t181 = true
        ·
         subst c15
         rw [if_pos rfl] at H
         by_cases c16 : a1 = true
         ·
          subst c16
          rw [if_pos rfl] at H
          have H' := Aside0.mk H
          clear H
          go_wp2
          go_meet
          case rel => exact ⟨_, ((x20_1 == (wrap64 ((t173.length : Int) - 1)))), xrr, H', ⟨by have := HK1.out; first | omega | exact Nat.le_refl _⟩, ⟨by (with_reducible repeat (first | apply Kd.R_alloc | apply Kd.R_drewN | apply Kd.R_drew)); exact Kd.R_mono (Kd.R_far (p := ⟨gb182, 3, none⟩) (Kd.R_far (p := ⟨gb182, 2, none⟩) (Kd.R_far (p := ⟨gb182, 1, none⟩) (Kd.R_far (p := ⟨gb182, 0, none⟩) (Kd.R_types HO_6.out BK182.out (by decide)) (fun _ hk => hk.2) (.int .u8 t177)) (fun _ hk => hk.2) (.int .u8 t178)) (fun _ hk => hk.2) (.int .u8 t179)) (fun _ hk => hk.2) (.int .u8 t180)) (fun _ hk => trivial)⟩, ⟨by (with_reducible repeat (first | apply Kd.R_alloc | apply Kd.R_drewN | apply Kd.R_drew)); exact Kd.R_mono (Kd.R_far (p := ⟨gb182, 3, none⟩) (Kd.R_far (p := ⟨gb182, 2, none⟩) (Kd.R_far (p := ⟨gb182, 1, none⟩) (Kd.R_far (p := ⟨gb182, 0, none⟩) (Kd.R_types HO_7.out BK182.out (by decide)) (fun _ hk => hk.2) (.int .u8 t177)) (fun _ hk => hk.2) (.int .u8 t178)) (fun _ hk => hk.2) (.int .u8 t179)) (fun _ hk => hk.2) (.int .u8 t180)) (fun _ hk => trivial)⟩, ⟨by (with_reducible repeat (first | apply Kd.R_alloc | apply Kd.R_drewN | apply Kd.R_drew)); exact Kd.R_mono (Kd.R_far (p := ⟨gb182, 3, none⟩) (Kd.R_far (p := ⟨gb182, 2, none⟩) (Kd.R_far (p := ⟨gb182, 1, none⟩) (Kd.R_far (p := ⟨gb182, 0, none⟩) (Kd.R_types HO_18.out BK182.out (by decide)) (fun _ hk => hk.2) (.int .u8 t177)) (fun _ hk => hk.2) (.int .u8 t178)) (fun _ hk => hk.2) (.int .u8 t179)) (fun _ hk => hk.2) (.int .u8 t180)) (fun _ hk => trivial)⟩, ⟨by (with_reducible repeat (first | refine blk_drewN ?_ _ | refine blk_drew ?_ | refine blk_alloc ?_ _)); refine blk_put (cs := #[.int .u8 t177, .int .u8 t178, .int .u8 t179, .int .u8 0]) ?_ 3 _ rfl; (with_reducible repeat (first | refine blk_drewN ?_ _ | refine blk_drew ?_ | refine blk_alloc ?_ _)); refine blk_put (cs := #[.int .u8 t177, .int .u8 t178, .int .u8 0, .int .u8 0]) ?_ 2 _ rfl; (with_reducible repeat (first | refine blk_drewN ?_ _ | refine blk_drew ?_ | refine blk_alloc ?_ _)); refine blk_put (cs := #[.int .u8 t177, .int .u8 0, .int .u8 0, .int .u8 0]) ?_ 1 _ rfl; (with_reducible repeat (first | refine blk_drewN ?_ _ | refine blk_drew ?_ | refine blk_alloc ?_ _)); refine blk_put (cs := #[.int .u8 0, .int .u8 0, .int .u8 0, .int .u8 0]) ?_ 0 _ rfl; (with_reducible repeat (first | refine blk_drewN ?_ _ | refine blk_drew ?_ | refine blk_alloc ?_ _)); exact BK182.out⟩, ⟨xbl⟩⟩
         ·
          replace c16 := Bool.eq_false_iff.mpr c16
          subst c16
          rw [if_neg (show ¬ (false = true) by decide)] at H
          have H' := Aside0.mk H
          clear H
          go_wp2
          go_meet
          case rel => exact ⟨_, (false), xrr, H', ⟨by have := HK1.out; first | omega | exact Nat.le_refl _⟩, ⟨by (with_reducible repeat (first | apply Kd.R_alloc | apply Kd.R_drewN | apply Kd.R_drew)); exact Kd.R_mono (Kd.R_far (p := ⟨gb182, 3, none⟩) (Kd.R_far (p := ⟨gb182, 2, none⟩) (Kd.R_far (p := ⟨gb182, 1, none⟩) (Kd.R_far (p := ⟨gb182, 0, none⟩) (Kd.R_types HO_6.out BK182.out (by decide)) (fun _ hk => hk.2) (.int .u8 t177)) (fun _ hk => hk.2) (.int .u8 t178)) (fun _ hk => hk.2) (.int .u8 t179)) (fun _ hk => hk.2) (.int .u8 t180)) (fun _ hk => trivial)⟩, ⟨by (with_reducible repeat (first | apply Kd.R_alloc | apply Kd.R_drewN | apply Kd.R_drew)); exact Kd.R_mono (Kd.R_far (p := ⟨gb182, 3, none⟩) (Kd.R_far (p := ⟨gb182, 2, none⟩) (Kd.R_far (p := ⟨gb182, 1, none⟩) (Kd.R_far (p := ⟨gb182, 0, none⟩) (Kd.R_types HO_7.out BK182.out (by decide)) (fun _ hk => hk.2) (.int .u8 t177)) (fun _ hk => hk.2) (.int .u8 t178)) (fun _ hk => hk.2) (.int .u8 t179)) (fun _ hk => hk.2) (.int .u8 t180)) (fun _ hk => trivial)⟩, ⟨by (with_reducible repeat (first | apply Kd.R_alloc | apply Kd.R_drewN | apply Kd.R_drew)); exact Kd.R_mono (Kd.R_far (p := ⟨gb182, 3, none⟩) (Kd.R_far (p := ⟨gb182, 2, none⟩) (Kd.R_far (p := ⟨gb182, 1, none⟩) (Kd.R_far (p := ⟨gb182, 0, none⟩) (Kd.R_types HO_18.out BK182.out (by decide)) (fun _ hk => hk.2) (.int .u8 t177)) (fun _ hk => hk.2) (.int .u8 t178)) (fun _ hk => hk.2) (.int .u8 t179)) (fun _ hk => hk.2) (.int .u8 t180)) (fun _ hk => trivial)⟩, ⟨by (with_reducible repeat (first | refine blk_drewN ?_ _ | refine blk_drew ?_ | refine blk_alloc ?_ _)); refine blk_put (cs := #[.int .u8 t177, .int .u8 t178, .int .u8 t179, .int .u8 0]) ?_ 3 _ rfl; (with_reducible repeat (first | refine blk_drewN ?_ _ | refine blk_drew ?_ | refine blk_alloc ?_ _)); refine blk_put (cs := #[.int .u8 t177, .int .u8 t178, .int .u8 0, .int .u8 0]) ?_ 2 _ rfl; (with_reducible repeat (first | refine blk_drewN ?_ _ | refine blk_drew ?_ | refine blk_alloc ?_ _)); refine blk_put (cs := #[.int .u8 t177, .int .u8 0, .int .u8 0, .int .u8 0]) ?_ 1 _ rfl; (with_reducible repeat (first | refine blk_drewN ?_ _ | refine blk_drew ?_ | refine blk_alloc ?_ _)); refine blk_put (cs := #[.int .u8 0, .int .u8 0, .int .u8 0, .int .u8 0]) ?_ 0 _ rfl; (with_reducible repeat (first | refine blk_drewN ?_ _ | refine blk_drew ?_ | refine blk_alloc ?_ _)); exact BK182.out⟩, ⟨xbl⟩⟩
        ·
         replace c15 := Bool.eq_false_iff.mpr c15
         subst c15
         rw [if_neg (show ¬ (false = true) by decide)] at H
         have H' := Aside0.mk H
         clear H
         go_wp2
         go_meet
         case rel => exact ⟨_, (false), xrr, H', ⟨by have := HK1.out; first | omega | exact Nat.le_refl _⟩, ⟨by (with_reducible repeat (first | apply Kd.R_alloc | apply Kd.R_drewN | apply Kd.R_drew)); exact Kd.R_mono (Kd.R_far (p := ⟨gb182, 3, none⟩) (Kd.R_far (p := ⟨gb182, 2, none⟩) (Kd.R_far (p := ⟨gb182, 1, none⟩) (Kd.R_far (p := ⟨gb182, 0, none⟩) (Kd.R_types HO_6.out BK182.out (by decide)) (fun _ hk => hk.2) (.int .u8 t177)) (fun _ hk => hk.2) (.int .u8 t178)) (fun _ hk => hk.2) (.int .u8 t179)) (fun _ hk => hk.2) (.int .u8 t180)) (fun _ hk => trivial)⟩, ⟨by (with_reducible repeat (first | apply Kd.R_alloc | apply Kd.R_drewN | apply Kd.R_drew)); exact Kd.R_mono (Kd.R_far (p := ⟨gb182, 3, none⟩) (Kd.R_far (p := ⟨gb182, 2, none⟩) (Kd.R_far (p := ⟨gb182, 1, none⟩) (Kd.R_far (p := ⟨gb182, 0, none⟩) (Kd.R_types HO_7.out BK182.out (by decide)) (fun _ hk => hk.2) (.int .u8 t177)) (fun _ hk => hk.2) (.int .u8 t178)) (fun _ hk => hk.2) (.int .u8 t179)) (fun _ hk => hk.2) (.int .u8 t180)) (fun _ hk => trivial)⟩, ⟨by (with_reducible repeat (first | apply Kd.R_alloc | apply Kd.R_drewN | apply Kd.R_drew)); exact Kd.R_mono (Kd.R_far (p := ⟨gb182, 3, none⟩) (Kd.R_far (p := ⟨gb182, 2, none⟩) (Kd.R_far (p := ⟨gb182, 1, none⟩) (Kd.R_far (p := ⟨gb182, 0, none⟩) (Kd.R_types HO_18.out BK182.out (by decide)) (fun _ hk => hk.2) (.int .u8 t177)) (fun _ hk => hk.2) (.int .u8 t178)) (fun _ hk => hk.2) (.int .u8 t179)) (fun _ hk => hk.2) (.int .u8 t180)) (fun _ hk => trivial)⟩, ⟨by (with_reducible repeat (first | refine blk_drewN ?_ _ | refine blk_drew ?_ | refine blk_alloc ?_ _)); refine blk_put (cs := #[.int .u8 t177, .int .u8 t178, .int .u8 t179, .int .u8 0]) ?_ 3 _ rfl; (with_reducible repeat (first | refine blk_drewN ?_ _ | refine blk_drew ?_ | refine blk_alloc ?_ _)); refine blk_put (cs := #[.int .u8 t177, .int .u8 t178, .int .u8 0, .int .u8 0]) ?_ 2 _ rfl; (with_reducible repeat (first | refine blk_drewN ?_ _ | refine blk_drew ?_ | refine blk_alloc ?_ _)); refine blk_put (cs := #[.int .u8 t177, .int .u8 0, .int .u8 0, .int .u8 0]) ?_ 1 _ rfl; (with_reducible repeat (first | refine blk_drewN ?_ _ | refine blk_drew ?_ | refine blk_alloc ?_ _)); refine blk_put (cs := #[.int .u8 0, .int .u8 0, .int .u8 0, .int .u8 0]) ?_ 0 _ rfl; (with_reducible repeat (first | refine blk_drewN ?_ _ | refine blk_drew ?_ | refine blk_alloc ?_ _)); exact BK182.out⟩, ⟨xbl⟩⟩
       case rest =>
        clear HC11
        clear c7b0 c8b0 c9b0 p176 q176
        try clear hx176_0
        obtain ⟨kq, x40_10, rfl, HA, HJ10, HO_6, HO_7, HO_18, BK182, HB⟩ := hcut
        cases kq with
        | zero => exact absurd HA.out (by simp [ip_words.j1])
        | succ kj10 =>
         have H := HA.out
         clear HA
         simp only [ip_words.j1] at H
         by_cases c17 : x40_10 = true
         ·
          subst c17
          rw [if_pos rfl] at H
          obtain ⟨y183, hy183⟩ : ∃ y_ : List Int, y_ = (([Go.bits .or .u16 (IntKind.u16.wrap ((IntKind.u16.wrap (t177)) * 256)) (IntKind.u16.wrap (t178)), Go.bits .or .u16 (IntKind.u16.wrap ((IntKind.u16.wrap (t179)) * 256)) (IntKind.u16.wrap (t180))] : List Int)) := ⟨_, rfl⟩
          replace H : (if x6_1.length + y183.length < 70368744177664 then (some ((x6_1 ++ y183), true)) else (none)) = some (r1, r2) := by first | (rw [hy183]; with_reducible exact H) | (have H2_ := (Option.bind_some _ _).symm.trans H; rw [hy183]; with_reducible exact H2_) | (have H2_ := (Option.bind_some _ _).symm.trans H; with_reducible exact H2_) | with_reducible exact H | (rw [hy183]; exact H) | exact H
          have Ny183 := Aside0.mk hy183
          clear hy183
          by_cases c18 : x6_1.length + y183.length < 70368744177664
          ·
           rw [if_pos c18] at H
           have LMc18 := Aside0.mk c18
           clear c18
           obtain ⟨y186, hy186⟩ : ∃ y_ : List Int, y_ = (x6_1 ++ y183) := ⟨_, rfl⟩
           replace H : (some (y186, true)) = some (r1, r2) := by first | (rw [hy186]; with_reducible exact H) | (have H2_ := (Option.bind_some _ _).symm.trans H; rw [hy186]; with_reducible exact H2_) | (have H2_ := (Option.bind_some _ _).symm.trans H; with_reducible exact H2_) | with_reducible exact H | (rw [hy186]; exact H) | exact H
           have Ny186 := Aside0.mk hy186
           clear hy186
           simp only [Option.some.injEq, Prod.mk.injEq] at H
           obtain ⟨rfl, rfl⟩ := H
           obtain ⟨hcz19_0, hcz19_1, hcz19_2, hcz19_3⟩ := xc4 BK182
           have hfz19_0 := xf BK182 0
           have hfz19_1 := xf BK182 1
           have hfz19_2 := xf BK182 2
           have hfz19_3 := xf BK182 3
           go_wp2_with (first | ((with_reducible refine gate_dst (N := 58) rfl ?_); (try (refine gate_guard (by rfl) ?_; dsimp only)); refine Kd.R_lit (Kd.int .u16) _ 71 ?hg (N := 58) ?hd (xs := ([Go.bits .or .u16 (IntKind.u16.wrap ((IntKind.u16.wrap (t177)) * 256)) (IntKind.u16.wrap (t178)), Go.bits .or .u16 (IntKind.u16.wrap ((IntKind.u16.wrap (t179)) * 256)) (IntKind.u16.wrap (t180))] : List Int)) (inner := [.int .u16 (Go.bits .or .u16 (IntKind.u16.wrap ((IntKind.u16.wrap (t177)) * 256)) (IntKind.u16.wrap (t178))), .int .u16 (Go.bits .or .u16 (IntKind.u16.wrap ((IntKind.u16.wrap (t179)) * 256)) (IntKind.u16.wrap (t180)))]) (ok := fun _ => True) (okp := fun _ => True) ?hr ?hp (fun _ hk => hk) trivial (Below.refl _ _) (Nat.le_refl _) (by simp) ?_; (case hd => rfl); (case hg => rfl); (case hr => first | (go_simp; done) | (go_simp; rfl)); (case hp => exact (Reps.one (show Kd.M (Kd.int .u16) _ _ _ (Go.bits .or .u16 (IntKind.u16.wrap ((IntKind.u16.wrap (t177)) * 256)) (IntKind.u16.wrap (t178))) [.int .u16 (Go.bits .or .u16 (IntKind.u16.wrap ((IntKind.u16.wrap (t177)) * 256)) (IntKind.u16.wrap (t178)))] from rfl) (Reps.one (show Kd.M (Kd.int .u16) _ _ _ (Go.bits .or .u16 (IntKind.u16.wrap ((IntKind.u16.wrap (t179)) * 256)) (IntKind.u16.wrap (t180))) [.int .u16 (Go.bits .or .u16 (IntKind.u16.wrap ((IntKind.u16.wrap (t179)) * 256)) (IntKind.u16.wrap (t180)))] from rfl) (Reps.none _ _)))); intro v184 w20 ho21 hb hg_ hnew_; clear hg_ hnew_; (first | rw [← Ny183.out] at ho21 | (simp only [Int.reduceToNat] at ho21; rw [← Ny183.out] at ho21)); have HO185 := Aside0.mk (Kd.R_lower (Kd.R_new' ho21 (Kd.R_lt (xkd HO_6))) (below_size xbl)); replace HO_6 := Aside0.mk (Kd.R_elder' (xkd HO_6) (Kd.R_base ho21) hb); replace HO_7 := Aside0.mk (Kd.R_below (xkd HO_7) hb); replace HO_18 := Aside0.mk (Kd.R_below (xkd HO_18) hb); replace BK182 := xbb (g := gb182) (o := .cells #[.int .u8 t177, .int .u8 t178, .int .u8 t179, .int .u8 t180] 75 (0, 0)) hb; replace HB := xst hb; clear hb ho21; obtain ⟨Ao23, co23, eo23⟩ := Kd.R_slice HO185.out; subst eo23) | ((with_reducible refine gate_builtin (b := .append) (xs := #[.tmp 41, .tmp 58]) rfl ?_); (try (refine gate_guard (by rfl) ?_; dsimp only)); at_builtin; refine Kd.R_append_rows (Kd.int .u16) (w0 := w) w.heap.size rfl (.tmp 41) (.tmp 58) 84 71 (.int .u16 0) 2 rfl Tryd.underlying84 info71 rfl (by decide) (by omega) u6 x6_1 y183 _ _ _ (fun k_ => some k_ ≠ (.slice Ao23 y183.length co23 : Value).ownBlock) (fun _ => False) rfl rfl ?aO ?aR (fun _ _ h => h) (fun _ h => h.elim) ?aF ?aB ?aS ?aL ?_; (case aR => repeat (first | exact (Kd.R_reads' HO185.out).2.2 | (with_reducible refine Kd.C_alloc ?_ _) | (with_reducible refine Kd.C_drewN ?_ _) | (with_reducible refine Kd.C_drew ?_))); (case aB => exact xbl); (case aF => exact (fun k_ hk => Kd.fresh' (Kd.R_lt (xkd HO185)) k_ hk)); (case aO => exact (by (with_reducible repeat (first | apply Kd.R_alloc | apply Kd.R_drewN | apply Kd.R_drew)); exact Kd.R_mono HO_6.out (fun _ hk => hk.2))); (case aS => exact (below_size xbl)); (case aL => have := LMc18.out; first | omega | exact Nat.le_of_lt this); intro v187 w22 ho hb hg hat; rw [← Ny186.out] at ho; have n0_ := Aside0.mk (Kd.R_over' (xkd HO_7) (Kd.R_typed (xkd HO_6)) (by decide) hg); have n1_ := Aside0.mk (Kd.R_over' (xkd HO_18) (Kd.R_typed (xkd HO_6)) (by decide) hg); have n2_ := Aside0.mk (blk_grown (g := gb182) (o := .cells #[.int .u8 t177, .int .u8 t178, .int .u8 t179, .int .u8 t180] 75 (0, 0)) xbk hg (Kd.R_ne HO_6.out BK182.out (by decide))); have n3_ := Aside0.mk (Kd.R_after (ok := (fun _ => True)) (xkd HO185) hg hat); have n4_ := Aside0.mk (hb); have n5_ := Aside0.mk (ho); clear HO_7; clear HO_18; clear BK182; clear HO185; clear HB; clear HO_6; have HO_7 := n0_; have HO_18 := n1_; have BK182 := n2_; have HO185 := n3_; have HB := n4_; have HO188 := n5_; clear n0_ n1_ n2_ n3_ n4_ n5_; clear ho hb hg hat))
           go_ret2
           exact ⟨_, by first | rfl | (simp [errW_none, errW_some] <;> first | rfl | (simp only [xp_isEmpty, bne, Bool.not_not]; done)) | (simp [*, errW_none, errW_some] <;> rfl), by (with_reducible repeat (first | apply Kd.R_alloc | apply Kd.R_drewN | apply Kd.R_drew)); exact Kd.R_mono HO188.out (fun _ hk => trivial), xbl⟩
          ·
           rw [if_neg c18] at H
           exact absurd H (by simp)
         ·
          replace c17 := Bool.eq_false_iff.mpr c17
          subst c17
          rw [if_neg (show ¬ (false = true) by decide)] at H
          replace H := Option.bind_eq_some_iff.mp H
          obtain ⟨⟨t189, t190⟩, A240, H⟩ := H
          try dsimp only at H
          have A24 := Aside0.mk A240
          clear A240
          by_cases c25 : t190 = true
          ·
           subst c25
           rw [if_pos rfl] at H
           by_cases c26 : x6_1.length < 70368744177664
           ·
            rw [if_pos c26] at H
            have LMc26 := Aside0.mk c26
            clear c26
            obtain ⟨y191, hy191⟩ : ∃ y_ : List Int, y_ = (x6_1 ++ [t189]) := ⟨_, rfl⟩
            replace H : (ip_words.l0 kj10 a1 y191 t173 t173 (t173.length : Int) (wrap64 (x20_1 + 1))) = some (r1, r2) := by first | (rw [hy191]; with_reducible exact H) | (have H2_ := (Option.bind_some _ _).symm.trans H; rw [hy191]; with_reducible exact H2_) | (have H2_ := (Option.bind_some _ _).symm.trans H; with_reducible exact H2_) | with_reducible exact H | (rw [hy191]; exact H) | exact H
            have Ny191 := Aside0.mk hy191
            clear hy191
            have H' := Aside0.mk H
            clear H
            go_wp2_with (first | ((with_reducible refine gate_callee (f := 57) rfl ?_); refine xgl 62 Tryd.func57 #[.string (rdOf ByteArray.empty t173 x20_1)] ?_; (with_reducible refine (ip_word.calls kj10 (rdOf ByteArray.empty t173 x20_1) t189 true _ A24.out).mono ?_); rintro e w' ⟨rfl, ⟨nd, rfl⟩⟩; refine ⟨_, rfl, ?_⟩) | ((with_reducible refine gate_builtin (b := .append) (xs := #[.tmp 67, .tmp 69]) rfl ?_); (try (refine gate_guard (by rfl) ?_; dsimp only)); at_builtin; refine Kd.R_append (Kd.int .u16) (w0 := w) w.heap.size rfl (.tmp 67) (.tmp 69) 84 71 (.int .u16 0) 2 rfl Tryd.underlying84 info71 rfl (by decide) (by omega) u6 x6_1 t189 [.int .u16 t189] (fun _ => True) (fun _ => False) rfl rfl ?aP (fun _ hk => hk.elim) ?aF ?aO ?aB ?aS ?aL ?_; (case aP => exact rfl); (case aB => exact xbl); (case aF => exact (fun _ _ => trivial)); (case aO => exact (xkd HO_6)); (case aS => exact (below_size xbl)); (case aL => have := LMc26.out; first | omega | exact Nat.le_of_lt this); intro v192 w27 ho hb hg hat; rw [← Ny191.out] at ho; have n0_ := Aside0.mk (Kd.R_over' (xkd HO_7) (Kd.R_typed (xkd HO_6)) (by decide) hg); have n1_ := Aside0.mk (Kd.R_over' (xkd HO_18) (Kd.R_typed (xkd HO_6)) (by decide) hg); have n2_ := Aside0.mk (blk_grown (g := gb182) (o := .cells #[.int .u8 t177, .int .u8 t178, .int .u8 t179, .int .u8 t180] 75 (0, 0)) xbk hg (Kd.R_ne HO_6.out BK182.out (by decide))); have n3_ := Aside0.mk (hb); have n4_ := Aside0.mk (ho); clear HO_7; clear HO_18; clear BK182; clear HB; clear HO_6; have HO_7 := n0_; have HO_18 := n1_; have BK182 := n2_; have HB := n3_; have HO193 := n4_; clear n0_ n1_ n2_ n3_ n4_; clear ho hb hg hat))
            go_roundg kj10
            case measure => have := HK1.out; have := HJ10.out; omega
            case rel => exact ⟨(y191), (wrap64 (x20_1 + 1)), xrr, H', ⟨by have := HK1.out; have := HJ10.out; omega⟩, ⟨xkd HO193⟩, ⟨xkd HO_7⟩, ⟨xkd HO_18⟩, ⟨xbl⟩⟩
           ·
            rw [if_neg c26] at H
            exact absurd H (by simp)
          ·
           replace c25 := Bool.eq_false_iff.mpr c25
           subst c25
           rw [if_neg (show ¬ (false = true) by decide)] at H
           simp only [Option.some.injEq, Prod.mk.injEq] at H
           obtain ⟨rfl, rfl⟩ := H
           go_wp2_with (first | ((with_reducible refine gate_callee (f := 57) rfl ?_); refine xgl 62 Tryd.func57 #[.string (rdOf ByteArray.empty t173 x20_1)] ?_; (with_reducible refine (ip_word.calls kj10 (rdOf ByteArray.empty t173 x20_1) t189 false _ A24.out).mono ?_); rintro e w' ⟨rfl, ⟨nd, rfl⟩⟩; refine ⟨_, rfl, ?_⟩))
           go_ret2
           exact ⟨_, by first | rfl | (simp [errW_none, errW_some] <;> first | rfl | (simp only [xp_isEmpty, bne, Bool.not_not]; done)) | (simp [*, errW_none, errW_some] <;> rfl), by first | exact Kd.R_nil _ _ _ _ _ | exact Kd.N_nil _ _ _ _ _ | exact Kd.V_nil _ _ _ _ _ | exact Kd.Q_nil _ _ _ _ _ | exact Kd.S_nil _ _ _ _ _, xbl⟩
      ·
       rw [if_neg c9] at H
       exact absurd H (by simp)
     ·
      rw [if_neg c8] at H
      exact absurd H (by simp)
    ·
     rw [if_neg c7] at H
     have c7b0 := decide_eq_false c7
     clear c7
     simp only [Option.some.injEq, Prod.mk.injEq] at H
     obtain ⟨rfl, rfl⟩ := H
     go_wp2
     go_ret2
     exact ⟨_, by first | rfl | (simp [errW_none, errW_some] <;> first | rfl | (simp only [xp_isEmpty, bne, Bool.not_not]; done)) | (simp [*, errW_none, errW_some] <;> rfl), by (with_reducible repeat (first | apply Kd.R_alloc | apply Kd.R_drewN | apply Kd.R_drew)); exact HO_6.out, xbl⟩
theorem ip_V6_row {w : World} {e base : Nat} {ok : Nat → Prop} {v : Value} {xs : List Int} (h : Kd.R (Kd.int .u16) e w base ok v xs) :
    ∃ A c, v = .slice A xs.length c ∧ ((A = none ∧ xs = []) ∨ ∃ g cur, A = some ⟨g, 0, none⟩ ∧ base ≤ g ∧ w.heap[g]? = some (.cells cur e (0, 0)) ∧ cur.toList.take xs.length = xs.map (Value.int .u16)) := by
  have ho := Kd.own_of_R h
  obtain ⟨hl, h1 | ⟨g, cap, cur, rfl, hb, hh, _, _, _, ht⟩⟩ := ho
  · obtain ⟨rfl, hn⟩ := h1
    exact ⟨none, 0, by rw [hn], .inl ⟨rfl, List.eq_nil_of_length_eq_zero hn⟩⟩
  · refine ⟨some ⟨g, 0, none⟩, cap, rfl, .inr ⟨g, cur, rfl, hb, hh, ?_⟩⟩
    rw [Nat.mul_one] at ht
    exact ht
theorem ip_V6_copy {P : Program} {dT elem ty : TypeId} (hu : P.underlying dT = some (.slice elem)) (hs : (P.info? elem).map (·.size) = some 1) {w : World} {g o n : Nat} {cur : Array Value} {t : TypeId} (hg : w.heap[g]? = some (.cells cur t (0, 0)))
    {A : Option Addr} {c : Nat} {xs : List Int} {e base : Nat} (hA : (A = none ∧ xs = []) ∨ ∃ g' cur', A = some ⟨g', 0, none⟩ ∧ base ≤ g' ∧ w.heap[g']? = some (.cells cur' e (0, 0)) ∧ cur'.toList.take xs.length = xs.map (Value.int .u16))
    (hfit : o + n ≤ cur.size) :
    (Builtin.copy_ #[dT, dT] ty #[.slice (some ⟨g, o, none⟩) n n, .slice A xs.length c]).run P w =
      .ok (goInt ((xs.take n).map (Value.int .u16)).length) (w.setRow g (cur.toList.take o ++ (xs.take n).map (Value.int .u16) ++ cur.toList.drop (o + ((xs.take n).map (Value.int .u16)).length)).toArray) := by
  rcases hA with ⟨rfl, rfl⟩ | ⟨g', cur', rfl, _, hh, ht⟩
  · have e1 : (cur.toList.take o ++ (([] : List Int).take n).map (Value.int .u16) ++ cur.toList.drop (o + ((([] : List Int).take n).map (Value.int .u16)).length)).toArray = cur := by simp
    rw [e1, setRow_self w g cur t (0, 0) hg, List.take_nil]
    exact run_copy_none w dT dT ty elem (some ⟨g, o, none⟩) none n n 0 c hu hs (by simp)
  · refine run_copy_row P w dT dT ty elem g o n n ⟨g', 0, none⟩ xs.length c cur t ((xs.take n).map (Value.int .u16)) hu hs hg (by simp [Nat.min_comm]) ?_ (by simp; omega) (by
      intro v hv
      obtain ⟨x, _, rfl⟩ := List.mem_map.1 hv
      rfl)
    intro j v hj
    have hadd : (⟨g', 0, none⟩ : Addr).add j = ⟨g', j, none⟩ := by unfold Addr.add; split <;> simp_all
    rw [hadd, cell_of_row w g' j cur' e (0, 0) hh]
    have hj2 : (xs.map (Value.int .u16))[j]? = some v := by
      rw [List.getElem?_map, List.getElem?_take] at hj
      split at hj
      · rw [List.getElem?_map]; exact hj
      · cases hj
    rw [← ht, List.getElem?_take] at hj2
    split at hj2
    · simpa using hj2
    · cases hj2
def ip_V6_zeros : List Int := [0, 0, 0, 0, 0, 0, 0, 0]
def ip_V6_tup (l : List Int) (b : Bool) : Int × Int × Int × Int × Int × Int × Int × Int × Bool := (l.getD 0 0, l.getD 1 0, l.getD 2 0, l.getD 3 0, l.getD 4 0, l.getD 5 0, l.getD 6 0, l.getD 7 0, b)
def ip_V6_cells (l : List Int) : Array Value := #[.int .u16 (l.getD 0 0), .int .u16 (l.getD 1 0), .int .u16 (l.getD 2 0), .int .u16 (l.getD 3 0), .int .u16 (l.getD 4 0), .int .u16 (l.getD 5 0), .int .u16 (l.getD 6 0), .int .u16 (l.getD 7 0)]
theorem ip_V6_cells_eq : ∀ (l : List Int), l.length = 8 → ip_V6_cells l = (l.map (Value.int .u16)).toArray
  | [_, _, _, _, _, _, _, _], _ => rfl
theorem ip_V6_one (l : List Int) : (ip_V6_cells l).all (·.oneCell') = true := by simp [ip_V6_cells, Value.oneCell']
theorem ip_V6_splice (l xs : List Int) (o : Nat) (hl : l.length = 8) (ho : o + xs.length ≤ 8) :
    ((ip_V6_cells l).toList.take o ++ xs.map (Value.int .u16) ++ (ip_V6_cells l).toList.drop (o + (xs.map (Value.int .u16)).length)).toArray = ip_V6_cells (l.take o ++ xs ++ l.drop (o + xs.length)) := by
  rw [ip_V6_cells_eq l hl, ip_V6_cells_eq _ (by simp; omega)]
  simp
theorem ip_V6_row_below {b : Nat} {w w2 : World} (h : Below b w w2) {g : Nat} (hg : b ≤ g) (cs : Array Value) : Below b w (w2.setRow g cs) := below_setRow h hg cs
def ip_V6_At (w : World) (W : World) (l : List Int) : Prop := W.heap[w.heap.size]? = some (.cells (ip_V6_cells ip_V6_zeros) 72 (0, 0)) ∧ W.heap[w.heap.size + 1]? = some (.cells (ip_V6_cells l) 72 (0, 0)) ∧ Below w.heap.size w W ∧ w.heap.size + 2 ≤ W.heap.size
theorem ip_V6_At.made (w : World) : ip_V6_At w ((w.alloc (.cells (ip_V6_cells ip_V6_zeros) 72)).alloc (.cells (ip_V6_cells ip_V6_zeros) 72)) ip_V6_zeros :=
  ⟨heap_alloc2_old w _ _, heap_alloc2_new w _ _, ((Below.refl _ _).alloc (Nat.le_refl _) _).alloc (by simp) _, by simp⟩
theorem ip_V6_At.below {w W W' : World} {l : List Int} (h : ip_V6_At w W l) (hb : Below W.heap.size W W') : ip_V6_At w W' l :=
  ⟨(hb.block _ (by have := h.2.2.2; omega)).trans h.1, (hb.block _ (by have := h.2.2.2; omega)).trans h.2.1, h.2.2.1.trans (hb.mono (by have := h.2.2.2; omega)), by have := h.2.2.2; have := hb.size; omega⟩
theorem ip_V6_At.drewN {w W : World} {l : List Int} (h : ip_V6_At w W l) (n : Nat) : ip_V6_At w (W.drewN n) l := h.below (Drawn0.below ⟨n, rfl⟩)
theorem ip_V6_At.copied {w W : World} {l l' : List Int} (h : ip_V6_At w W l) : ip_V6_At w (W.setRow (w.heap.size + 1) (ip_V6_cells l')) l' :=
  ⟨by rw [setRow_other _ _ _ _ (by omega)]; exact h.1, setRow_heap _ _ _ _ _ _ h.2.1, ip_V6_row_below h.2.2.1 (by omega) _, by simpa using h.2.2.2⟩
def ip_V6_Row (W : World) (b : Nat) (A : Option Addr) (p : List Int) : Prop := (A = none ∧ p = []) ∨ ∃ g cur, A = some ⟨g, 0, none⟩ ∧ b ≤ g ∧ W.heap[g]? = some (.cells cur 71 (0, 0)) ∧ cur.toList.take p.length = p.map (Value.int .u16)
theorem ip_V6_Row.below {W W' : World} {b : Nat} {A : Option Addr} {p : List Int} (h : ip_V6_Row W b A p) (hb : Below W.heap.size W W') : ip_V6_Row W' b A p := by
  rcases h with h | ⟨g, cur, h1, h2, h3, h4⟩
  · exact .inl h
  · refine .inr ⟨g, cur, h1, h2, (hb.block _ ?_).trans h3, h4⟩
    rw [Array.getElem?_eq_some_iff] at h3
    exact h3.1
theorem ip_V6_Row.setRow {W : World} {b : Nat} {A : Option Addr} {p : List Int} (h : ip_V6_Row W b A p) {g : Nat} (hg : g < b) (cs : Array Value) : ip_V6_Row (W.setRow g cs) b A p := by
  rcases h with h | ⟨g', cur, h1, h2, h3, h4⟩
  · exact .inl h
  · exact .inr ⟨g', cur, h1, h2, by rw [setRow_other _ _ _ _ (by omega)]; exact h3, h4⟩
def ip_V6_put (l : List Int) (o : Nat) (xs : List Int) (n : Nat) : List Int := l.take o ++ xs.take n ++ l.drop (o + (xs.take n).length)
theorem ip_V6_put_len (l xs : List Int) (o n : Nat) (hl : l.length = 8) (h : o + n ≤ 8) : (ip_V6_put l o xs n).length = 8 := by
  unfold ip_V6_put; simp; omega
theorem ip_V6_copied {w W : World} {l p : List Int} {A : Option Addr} {b c : Nat} {o n : Nat} (h : ip_V6_At w W l) (hA : ip_V6_Row W b A p) (hl : l.length = 8) (ho : o + n ≤ 8) :
    (Builtin.copy_ #[84, 84] 3 #[.slice (some ⟨w.heap.size + 1, o, none⟩) n n, .slice A p.length c]).run Tryd.prog W =
      .ok (goInt (p.take n).length) (W.setRow (w.heap.size + 1) (ip_V6_cells (ip_V6_put l o p n))) := by
  have := ip_V6_copy (P := Tryd.prog) (dT := 84) (elem := 71) (ty := 3) Tryd.underlying84 (by kernel_rfl) (w := W) (o := o) (n := n) h.2.1 (c := c) hA (by have : (ip_V6_cells l).size = 8 := rfl; omega)
  rw [ip_V6_splice l (p.take n) o hl (by rw [List.length_take]; omega), List.length_map] at this
  exact this
theorem ip_V6_base {w W w1 : World} {A : Option Addr} {p : List Int} (h2 : w.heap.size + 2 ≤ W.heap.size) (h : (A = none ∧ p = []) ∨ ∃ g cur, A = some ⟨g, 0, none⟩ ∧ W.heap.size ≤ g ∧ w1.heap[g]? = some (.cells cur 71 (0, 0)) ∧ cur.toList.take p.length = p.map (Value.int .u16)) : ip_V6_Row w1 (w.heap.size + 2) A p := by
  rcases h with h | ⟨g, cur, h1, h3, h4⟩
  · exact .inl h
  · exact .inr ⟨g, cur, h1, by omega, h4⟩
set_option maxHeartbeats 1000000 in
set_option maxRecDepth 100000 in
theorem ip_V6_no1 (k : Nat) (a0 x y : ByteArray) (sh : Bool) (p q : List Int) (w : World) (hG : GW w) (hcut : strings_Cut.f a0 (⟨#[58, 58]⟩ : ByteArray) = some (x, y, sh)) (hw : ip_words.f k x (!sh) = some (p, false)) :
    Calls Tryd.prog 42 #[.string a0] w fun e w' => e = .returned (.tuple #[.agg (ip_V6_cells ip_V6_zeros), .bool false]) ∧ Below w.heap.size w w' := by
  have hu8 := Tryd.underlying72
  have A1 := Aside0.mk hcut
  have A2 := Aside0.mk hw
  clear hcut hw
  go_enter Tryd.func42, Tryd.ntmps42
  go_wp2_with (first | (go_at_call 50; (refine (strings_Cut.calls a0 ⟨#[58, 58]⟩ x y sh _ (by exact GW_to hG (ip_V6_At.made w).2.2.1) A1.out).mono ?_); rintro e w' ⟨rfl, ⟨nd, rfl⟩⟩; generalize hW : World.drewN _ nd = W; have VA := Aside0.mk (show ip_V6_At w W ip_V6_zeros from by rw [← hW]; exact (ip_V6_At.made w).drewN nd); clear hW) | ((with_reducible refine gate_callee (f := 51) rfl ?_); refine goesL_ (some 21) rfl rfl Tryd.func51 (by kernel_rfl) rfl #[.string x, .bool (!sh)] rfl (by (try simp only [List.map_toArray, List.map_cons, List.map_nil]); first | done | rfl) ?_; (refine (ip_words.calls k x (!sh) p false _ (by exact GW_to hG VA.out.2.2.1) A2.out).mono ?_); rintro e w1 ⟨v1, rfl, hr, hb⟩; have VB := Aside0.mk (VA.out.below hb); obtain ⟨A, c, rfl, hA⟩ := ip_V6_row hr; have HA := Aside0.mk (show ip_V6_Row w1 (w.heap.size + 2) A p from ip_V6_base VA.out.2.2.2 hA); clear hA hr hb; refine ⟨_, rfl, ?_⟩) | (refine wpList_load_row rfl 72 (.tmp 4) rfl (w.heap.size + 1) rfl 72 (ip_V6_cells ip_V6_zeros) (0, 0) _ VB.out.2.1 hu8 rfl (by kernel_rfl) ?_; refine wpList_store_row rfl 72 (.tmp 2) (.tmp 26) rfl w.heap.size (ip_V6_cells ip_V6_zeros) ?x1 ?x2 72 (ip_V6_cells ip_V6_zeros) VB.out.1 ?x3 ?x4 ?x5 ?_; (case x1 => rfl); (case x2 => rfl); (case x3 => exact (show (Tryd.prog.info? 72).map (·.size) = some 8 by kernel_rfl)); (case x4 => rfl); (case x5 => exact ip_V6_one _)))
  refine bodyPost_ret (results_ct rfl _ _ w.heap.size 72 (ip_V6_cells ip_V6_zeros) (0, 0) _ rfl (setRow_heap _ _ _ _ _ _ VB.out.1) Tryd.underlying72 rfl (show (Tryd.prog.info? 72).map (·.size) = some 8 by kernel_rfl)) rfl ⟨rfl, ip_V6_row_below VB.out.2.2.1 (Nat.le_refl _) _⟩
set_option maxHeartbeats 1000000 in
set_option maxRecDepth 100000 in
theorem ip_V6_full (k : Nat) (a0 x y : ByteArray) (sh : Bool) (p q : List Int) (w : World) (hG : GW w) (hcut : strings_Cut.f a0 (⟨#[58, 58]⟩ : ByteArray) = some (x, y, false)) (hw : ip_words.f k x true = some (p, true)) (h8 : p.length = 8) :
    Calls Tryd.prog 42 #[.string a0] w fun e w' => e = .returned (.tuple #[.agg (ip_V6_cells (ip_V6_put ip_V6_zeros 0 p 8)), .bool true]) ∧ Below w.heap.size w w' := by
  have hu8 := Tryd.underlying72
  have A1 := Aside0.mk hcut
  have A2 := Aside0.mk hw
  clear hcut hw
  have t8 : ((p.length : Int) != 8) = false := by simp [h8]
  clear h8
  go_enter Tryd.func42, Tryd.ntmps42
  go_wp2_with (first | (go_at_call 50; (refine (strings_Cut.calls a0 ⟨#[58, 58]⟩ x y false _ (by exact GW_to hG (ip_V6_At.made w).2.2.1) A1.out).mono ?_); rintro e w' ⟨rfl, ⟨nd, rfl⟩⟩; generalize hW : World.drewN _ nd = W; have VA := Aside0.mk (show ip_V6_At w W ip_V6_zeros from by rw [← hW]; exact (ip_V6_At.made w).drewN nd); clear hW) | ((with_reducible refine gate_callee (f := 51) rfl ?_); refine goesL_ (some 21) rfl rfl Tryd.func51 (by kernel_rfl) rfl #[.string x, .bool true] rfl (by (try simp only [List.map_toArray, List.map_cons, List.map_nil]); first | done | rfl) ?_; (refine (ip_words.calls k x true p true _ (by exact GW_to hG VA.out.2.2.1) A2.out).mono ?_); rintro e w1 ⟨v1, rfl, hr, hb⟩; have VB := Aside0.mk (VA.out.below hb); obtain ⟨A, c, rfl, hA⟩ := ip_V6_row hr; have HA := Aside0.mk (show ip_V6_Row w1 (w.heap.size + 2) A p from ip_V6_base VA.out.2.2.2 hA); clear hA hr hb; refine ⟨_, rfl, ?_⟩) | (refine Lib.wpList_copy_run _ rfl (.tmp 29) (.tmp 30) 84 84 rfl (.slice (some ⟨w.heap.size + 1, 0, none⟩) 8 8) (.slice A p.length c) ?y1 ?y2 (ip_V6_copied (o := 0) (n := 8) VB.out HA.out ?y3 ?y4) ?_; (case y1 => rfl); (case y2 => rfl); (case y3 => first | rfl | exact ip_V6_put_len _ _ _ _ rfl (by omega)); (case y4 => omega); have VC := Aside0.mk (VB.out.copied (l' := (ip_V6_put ip_V6_zeros 0 p 8))); generalize World.setRow _ _ _ = W2 at VC ⊢) | (refine wpList_load_row rfl 72 (.tmp 4) rfl (w.heap.size + 1) rfl 72 (ip_V6_cells (ip_V6_put ip_V6_zeros 0 p 8)) (0, 0) _ VC.out.2.1 hu8 rfl (by kernel_rfl) ?_; refine wpList_store_row rfl 72 (.tmp 2) (.tmp 36) rfl w.heap.size (ip_V6_cells (ip_V6_put ip_V6_zeros 0 p 8)) ?x1 ?x2 72 (ip_V6_cells ip_V6_zeros) VC.out.1 ?x3 ?x4 ?x5 ?_; (case x1 => rfl); (case x2 => rfl); (case x3 => exact (show (Tryd.prog.info? 72).map (·.size) = some 8 by kernel_rfl)); (case x4 => rfl); (case x5 => exact ip_V6_one _)))
  refine bodyPost_ret (results_ct rfl _ _ w.heap.size 72 (ip_V6_cells (ip_V6_put ip_V6_zeros 0 p 8)) (0, 0) _ rfl (setRow_heap _ _ _ _ _ _ VC.out.1) Tryd.underlying72 rfl (show (Tryd.prog.info? 72).map (·.size) = some 8 by kernel_rfl)) rfl ⟨rfl, ip_V6_row_below VC.out.2.2.1 (Nat.le_refl _) _⟩
set_option maxHeartbeats 1000000 in
set_option maxRecDepth 100000 in
theorem ip_V6_few (k : Nat) (a0 x y : ByteArray) (sh : Bool) (p q : List Int) (w : World) (hG : GW w) (hcut : strings_Cut.f a0 (⟨#[58, 58]⟩ : ByteArray) = some (x, y, false)) (hw : ip_words.f k x true = some (p, true)) (h8 : ¬ p.length = 8) :
    Calls Tryd.prog 42 #[.string a0] w fun e w' => e = .returned (.tuple #[.agg (ip_V6_cells ip_V6_zeros), .bool false]) ∧ Below w.heap.size w w' := by
  have hu8 := Tryd.underlying72
  have A1 := Aside0.mk hcut
  have A2 := Aside0.mk hw
  clear hcut hw
  have t8 : ((p.length : Int) != 8) = true := by rw [bne_iff_ne]; omega
  clear h8
  go_enter Tryd.func42, Tryd.ntmps42
  go_wp2_with (first | (go_at_call 50; (refine (strings_Cut.calls a0 ⟨#[58, 58]⟩ x y false _ (by exact GW_to hG (ip_V6_At.made w).2.2.1) A1.out).mono ?_); rintro e w' ⟨rfl, ⟨nd, rfl⟩⟩; generalize hW : World.drewN _ nd = W; have VA := Aside0.mk (show ip_V6_At w W ip_V6_zeros from by rw [← hW]; exact (ip_V6_At.made w).drewN nd); clear hW) | ((with_reducible refine gate_callee (f := 51) rfl ?_); refine goesL_ (some 21) rfl rfl Tryd.func51 (by kernel_rfl) rfl #[.string x, .bool true] rfl (by (try simp only [List.map_toArray, List.map_cons, List.map_nil]); first | done | rfl) ?_; (refine (ip_words.calls k x true p true _ (by exact GW_to hG VA.out.2.2.1) A2.out).mono ?_); rintro e w1 ⟨v1, rfl, hr, hb⟩; have VB := Aside0.mk (VA.out.below hb); obtain ⟨A, c, rfl, hA⟩ := ip_V6_row hr; have HA := Aside0.mk (show ip_V6_Row w1 (w.heap.size + 2) A p from ip_V6_base VA.out.2.2.2 hA); clear hA hr hb; refine ⟨_, rfl, ?_⟩) | (refine Lib.wpList_copy_run _ rfl (.tmp 29) (.tmp 30) 84 84 rfl (.slice (some ⟨w.heap.size + 1, 0, none⟩) 8 8) (.slice A p.length c) ?y1 ?y2 (ip_V6_copied (o := 0) (n := 8) VB.out HA.out ?y3 ?y4) ?_; (case y1 => rfl); (case y2 => rfl); (case y3 => first | rfl | exact ip_V6_put_len _ _ _ _ rfl (by omega)); (case y4 => omega); have VC := Aside0.mk (VB.out.copied (l' := (ip_V6_put ip_V6_zeros 0 p 8))); generalize World.setRow _ _ _ = W2 at VC ⊢) | (refine wpList_store_row rfl 72 (.tmp 2) (.tmp 35) rfl w.heap.size (ip_V6_cells ip_V6_zeros) ?x1 ?x2 72 (ip_V6_cells ip_V6_zeros) VC.out.1 ?x3 ?x4 ?x5 ?_; (case x1 => rfl); (case x2 => rfl); (case x3 => exact (show (Tryd.prog.info? 72).map (·.size) = some 8 by kernel_rfl)); (case x4 => rfl); (case x5 => exact ip_V6_one _)))
  refine bodyPost_ret (results_ct rfl _ _ w.heap.size 72 (ip_V6_cells ip_V6_zeros) (0, 0) _ rfl (setRow_heap _ _ _ _ _ _ VC.out.1) Tryd.underlying72 rfl (show (Tryd.prog.info? 72).map (·.size) = some 8 by kernel_rfl)) rfl ⟨rfl, ip_V6_row_below VC.out.2.2.1 (Nat.le_refl _) _⟩
set_option maxHeartbeats 1000000 in
set_option maxRecDepth 100000 in
theorem ip_V6_no2 (k : Nat) (a0 x y : ByteArray) (sh : Bool) (p q : List Int) (w : World) (hG : GW w) (hcut : strings_Cut.f a0 (⟨#[58, 58]⟩ : ByteArray) = some (x, y, true)) (hw : ip_words.f k x false = some (p, true)) (hw2 : ip_words.f k y true = some (q, false)) :
    Calls Tryd.prog 42 #[.string a0] w fun e w' => e = .returned (.tuple #[.agg (ip_V6_cells ip_V6_zeros), .bool false]) ∧ Below w.heap.size w w' := by
  have hu8 := Tryd.underlying72
  have A1 := Aside0.mk hcut
  have A2 := Aside0.mk hw
  clear hcut hw
  have A3 := Aside0.mk hw2
  clear hw2
  go_enter Tryd.func42, Tryd.ntmps42
  go_wp2_with (first | (go_at_call 50; (refine (strings_Cut.calls a0 ⟨#[58, 58]⟩ x y true _ (by exact GW_to hG (ip_V6_At.made w).2.2.1) A1.out).mono ?_); rintro e w' ⟨rfl, ⟨nd, rfl⟩⟩; generalize hW : World.drewN _ nd = W; have VA := Aside0.mk (show ip_V6_At w W ip_V6_zeros from by rw [← hW]; exact (ip_V6_At.made w).drewN nd); clear hW) | ((with_reducible refine gate_callee (f := 51) rfl ?_); refine goesL_ (some 21) rfl rfl Tryd.func51 (by kernel_rfl) rfl #[.string x, .bool false] rfl (by (try simp only [List.map_toArray, List.map_cons, List.map_nil]); first | done | rfl) ?_; (refine (ip_words.calls k x false p true _ (by exact GW_to hG VA.out.2.2.1) A2.out).mono ?_); rintro e w1 ⟨v1, rfl, hr, hb⟩; have VB := Aside0.mk (VA.out.below hb); obtain ⟨A, c, rfl, hA⟩ := ip_V6_row hr; have HA := Aside0.mk (show ip_V6_Row w1 (w.heap.size + 2) A p from ip_V6_base VA.out.2.2.2 hA); clear hA hr hb; refine ⟨_, rfl, ?_⟩) | ((with_reducible refine gate_callee (f := 51) rfl ?_); refine goesL_ (some 39) rfl rfl Tryd.func51 (by kernel_rfl) rfl #[.string y, .bool true] rfl (by (try simp only [List.map_toArray, List.map_cons, List.map_nil]); first | done | rfl) ?_; (refine (ip_words.calls k y true q false _ (by exact GW_to hG VB.out.2.2.1) A3.out).mono ?_); rintro e w2 ⟨v2, rfl, hr, hb⟩; have VC := Aside0.mk (VB.out.below hb); have HB := Aside0.mk (HA.out.below hb); obtain ⟨A', c', rfl, hA⟩ := ip_V6_row hr; have HQ := Aside0.mk (show ip_V6_Row w2 (w.heap.size + 2) A' q from ip_V6_base VB.out.2.2.2 hA); clear hA hr hb; refine ⟨_, rfl, ?_⟩) | (refine wpList_load_row rfl 72 (.tmp 4) rfl (w.heap.size + 1) rfl 72 (ip_V6_cells ip_V6_zeros) (0, 0) _ VC.out.2.1 hu8 rfl (by kernel_rfl) ?_; refine wpList_store_row rfl 72 (.tmp 2) (.tmp 52) rfl w.heap.size (ip_V6_cells ip_V6_zeros) ?x1 ?x2 72 (ip_V6_cells ip_V6_zeros) VC.out.1 ?x3 ?x4 ?x5 ?_; (case x1 => rfl); (case x2 => rfl); (case x3 => exact (show (Tryd.prog.info? 72).map (·.size) = some 8 by kernel_rfl)); (case x4 => rfl); (case x5 => exact ip_V6_one _)))
  refine bodyPost_ret (results_ct rfl _ _ w.heap.size 72 (ip_V6_cells ip_V6_zeros) (0, 0) _ rfl (setRow_heap _ _ _ _ _ _ VC.out.1) Tryd.underlying72 rfl (show (Tryd.prog.info? 72).map (·.size) = some 8 by kernel_rfl)) rfl ⟨rfl, ip_V6_row_below VC.out.2.2.1 (Nat.le_refl _) _⟩
set_option maxHeartbeats 1000000 in
set_option maxRecDepth 100000 in
theorem ip_V6_many (k : Nat) (a0 x y : ByteArray) (sh : Bool) (p q : List Int) (w : World) (hG : GW w) (hcut : strings_Cut.f a0 (⟨#[58, 58]⟩ : ByteArray) = some (x, y, true)) (hw : ip_words.f k x false = some (p, true)) (hw2 : ip_words.f k y true = some (q, true)) (hm : 8 ≤ wrap64 ((p.length : Int) + q.length)) :
    Calls Tryd.prog 42 #[.string a0] w fun e w' => e = .returned (.tuple #[.agg (ip_V6_cells ip_V6_zeros), .bool false]) ∧ Below w.heap.size w w' := by
  have hu8 := Tryd.underlying72
  have A1 := Aside0.mk hcut
  have A2 := Aside0.mk hw
  clear hcut hw
  have A3 := Aside0.mk hw2
  clear hw2
  have t8 : decide (8 ≤ wrap64 ((p.length : Int) + q.length)) = true := decide_eq_true hm
  clear hm
  go_enter Tryd.func42, Tryd.ntmps42
  go_wp2_with (first | (go_at_call 50; (refine (strings_Cut.calls a0 ⟨#[58, 58]⟩ x y true _ (by exact GW_to hG (ip_V6_At.made w).2.2.1) A1.out).mono ?_); rintro e w' ⟨rfl, ⟨nd, rfl⟩⟩; generalize hW : World.drewN _ nd = W; have VA := Aside0.mk (show ip_V6_At w W ip_V6_zeros from by rw [← hW]; exact (ip_V6_At.made w).drewN nd); clear hW) | ((with_reducible refine gate_callee (f := 51) rfl ?_); refine goesL_ (some 21) rfl rfl Tryd.func51 (by kernel_rfl) rfl #[.string x, .bool false] rfl (by (try simp only [List.map_toArray, List.map_cons, List.map_nil]); first | done | rfl) ?_; (refine (ip_words.calls k x false p true _ (by exact GW_to hG VA.out.2.2.1) A2.out).mono ?_); rintro e w1 ⟨v1, rfl, hr, hb⟩; have VB := Aside0.mk (VA.out.below hb); obtain ⟨A, c, rfl, hA⟩ := ip_V6_row hr; have HA := Aside0.mk (show ip_V6_Row w1 (w.heap.size + 2) A p from ip_V6_base VA.out.2.2.2 hA); clear hA hr hb; refine ⟨_, rfl, ?_⟩) | ((with_reducible refine gate_callee (f := 51) rfl ?_); refine goesL_ (some 39) rfl rfl Tryd.func51 (by kernel_rfl) rfl #[.string y, .bool true] rfl (by (try simp only [List.map_toArray, List.map_cons, List.map_nil]); first | done | rfl) ?_; (refine (ip_words.calls k y true q true _ (by exact GW_to hG VB.out.2.2.1) A3.out).mono ?_); rintro e w2 ⟨v2, rfl, hr, hb⟩; have VC := Aside0.mk (VB.out.below hb); have HB := Aside0.mk (HA.out.below hb); obtain ⟨A', c', rfl, hA⟩ := ip_V6_row hr; have HQ := Aside0.mk (show ip_V6_Row w2 (w.heap.size + 2) A' q from ip_V6_base VB.out.2.2.2 hA); clear hA hr hb; refine ⟨_, rfl, ?_⟩) | (refine wpList_load_row rfl 72 (.tmp 4) rfl (w.heap.size + 1) rfl 72 (ip_V6_cells ip_V6_zeros) (0, 0) _ VC.out.2.1 hu8 rfl (by kernel_rfl) ?_; refine wpList_store_row rfl 72 (.tmp 2) (.tmp 52) rfl w.heap.size (ip_V6_cells ip_V6_zeros) ?x1 ?x2 72 (ip_V6_cells ip_V6_zeros) VC.out.1 ?x3 ?x4 ?x5 ?_; (case x1 => rfl); (case x2 => rfl); (case x3 => exact (show (Tryd.prog.info? 72).map (·.size) = some 8 by kernel_rfl)); (case x4 => rfl); (case x5 => exact ip_V6_one _)))
  refine bodyPost_ret (results_ct rfl _ _ w.heap.size 72 (ip_V6_cells ip_V6_zeros) (0, 0) _ rfl (setRow_heap _ _ _ _ _ _ VC.out.1) Tryd.underlying72 rfl (show (Tryd.prog.info? 72).map (·.size) = some 8 by kernel_rfl)) rfl ⟨rfl, ip_V6_row_below VC.out.2.2.1 (Nat.le_refl _) _⟩
set_option maxHeartbeats 1000000 in
set_option maxRecDepth 100000 in
theorem ip_V6_short (k : Nat) (a0 x y : ByteArray) (sh : Bool) (p q : List Int) (w : World) (hG : GW w) (hcut : strings_Cut.f a0 (⟨#[58, 58]⟩ : ByteArray) = some (x, y, true)) (hw : ip_words.f k x false = some (p, true)) (hw2 : ip_words.f k y true = some (q, true)) (hm : p.length + q.length < 8) (o : Nat) (ho : o + q.length = 8) (h8 : o < 8) :
    Calls Tryd.prog 42 #[.string a0] w fun e w' => e = .returned (.tuple #[.agg (ip_V6_cells (ip_V6_put (ip_V6_put ip_V6_zeros 0 p 8) o q (8 - o))), .bool true]) ∧ Below w.heap.size w w' := by
  have hu8 := Tryd.underlying72
  have A1 := Aside0.mk hcut
  have A2 := Aside0.mk hw
  clear hcut hw
  have A3 := Aside0.mk hw2
  clear hw2
  have t8 : decide (8 ≤ wrap64 ((p.length : Int) + q.length)) = false := decide_eq_false (by unfold wrap64; omega)
  have t9 : wrap64 (8 - (q.length : Int)) = (o : Int) := by unfold wrap64; omega
  have t12 : (o : Int) ≤ 8 := by omega
  have t13 : o ≤ 8 := by omega
  have t14 : ¬ 8 = o := by omega
  clear hm ho h8
  go_enter Tryd.func42, Tryd.ntmps42
  go_wp2_with (first | (go_at_call 50; (refine (strings_Cut.calls a0 ⟨#[58, 58]⟩ x y true _ (by exact GW_to hG (ip_V6_At.made w).2.2.1) A1.out).mono ?_); rintro e w' ⟨rfl, ⟨nd, rfl⟩⟩; generalize hW : World.drewN _ nd = W; have VA := Aside0.mk (show ip_V6_At w W ip_V6_zeros from by rw [← hW]; exact (ip_V6_At.made w).drewN nd); clear hW) | ((with_reducible refine gate_callee (f := 51) rfl ?_); refine goesL_ (some 21) rfl rfl Tryd.func51 (by kernel_rfl) rfl #[.string x, .bool false] rfl (by (try simp only [List.map_toArray, List.map_cons, List.map_nil]); first | done | rfl) ?_; (refine (ip_words.calls k x false p true _ (by exact GW_to hG VA.out.2.2.1) A2.out).mono ?_); rintro e w1 ⟨v1, rfl, hr, hb⟩; have VB := Aside0.mk (VA.out.below hb); obtain ⟨A, c, rfl, hA⟩ := ip_V6_row hr; have HA := Aside0.mk (show ip_V6_Row w1 (w.heap.size + 2) A p from ip_V6_base VA.out.2.2.2 hA); clear hA hr hb; refine ⟨_, rfl, ?_⟩) | ((with_reducible refine gate_callee (f := 51) rfl ?_); refine goesL_ (some 39) rfl rfl Tryd.func51 (by kernel_rfl) rfl #[.string y, .bool true] rfl (by (try simp only [List.map_toArray, List.map_cons, List.map_nil]); first | done | rfl) ?_; (refine (ip_words.calls k y true q true _ (by exact GW_to hG VB.out.2.2.1) A3.out).mono ?_); rintro e w2 ⟨v2, rfl, hr, hb⟩; have VC := Aside0.mk (VB.out.below hb); have HB := Aside0.mk (HA.out.below hb); obtain ⟨A', c', rfl, hA⟩ := ip_V6_row hr; have HQ := Aside0.mk (show ip_V6_Row w2 (w.heap.size + 2) A' q from ip_V6_base VB.out.2.2.2 hA); clear hA hr hb; refine ⟨_, rfl, ?_⟩) | (refine Lib.wpList_copy_run _ rfl (.tmp 53) (.tmp 54) 84 84 rfl (.slice (some ⟨w.heap.size + 1, 0, none⟩) 8 8) (.slice A p.length c) ?y1 ?y2 (ip_V6_copied (o := 0) (n := 8) VC.out HB.out ?y3 ?y4) ?_; (case y1 => rfl); (case y2 => rfl); (case y3 => first | rfl | exact ip_V6_put_len _ _ _ _ rfl (by omega)); (case y4 => omega); have HQ2 := Aside0.mk (HQ.out.setRow (Nat.lt_succ_self (w.heap.size + 1)) (ip_V6_cells (ip_V6_put ip_V6_zeros 0 p 8))); have VD := Aside0.mk (VC.out.copied (l' := (ip_V6_put ip_V6_zeros 0 p 8))); generalize World.setRow _ _ _ = W2 at VD HQ2 ⊢) | (refine Lib.wpList_copy_run _ rfl (.tmp 59) (.tmp 60) 84 84 rfl (.slice (some ⟨w.heap.size + 1, o, none⟩) (8 - o) (8 - o)) (.slice A' q.length c') ?y1 ?y2 (ip_V6_copied (o := o) (n := (8 - o)) VD.out HQ2.out ?y3 ?y4) ?_; (case y1 => rfl); (case y2 => rfl); (case y3 => first | rfl | exact ip_V6_put_len _ _ _ _ rfl (by omega)); (case y4 => omega); have VE := Aside0.mk (VD.out.copied (l' := (ip_V6_put (ip_V6_put ip_V6_zeros 0 p 8) o q (8 - o)))); generalize World.setRow _ _ _ = W3 at VE ⊢) | (refine wpList_load_row rfl 72 (.tmp 4) rfl (w.heap.size + 1) rfl 72 (ip_V6_cells (ip_V6_put (ip_V6_put ip_V6_zeros 0 p 8) o q (8 - o))) (0, 0) _ VE.out.2.1 hu8 rfl (by kernel_rfl) ?_; refine wpList_store_row rfl 72 (.tmp 2) (.tmp 62) rfl w.heap.size (ip_V6_cells (ip_V6_put (ip_V6_put ip_V6_zeros 0 p 8) o q (8 - o))) ?x1 ?x2 72 (ip_V6_cells ip_V6_zeros) VE.out.1 ?x3 ?x4 ?x5 ?_; (case x1 => rfl); (case x2 => rfl); (case x3 => exact (show (Tryd.prog.info? 72).map (·.size) = some 8 by kernel_rfl)); (case x4 => rfl); (case x5 => exact ip_V6_one _)))
  refine bodyPost_ret (results_ct rfl _ _ w.heap.size 72 (ip_V6_cells (ip_V6_put (ip_V6_put ip_V6_zeros 0 p 8) o q (8 - o))) (0, 0) _ rfl (setRow_heap _ _ _ _ _ _ VE.out.1) Tryd.underlying72 rfl (show (Tryd.prog.info? 72).map (·.size) = some 8 by kernel_rfl)) rfl ⟨rfl, ip_V6_row_below VE.out.2.2.1 (Nat.le_refl _) _⟩
set_option maxHeartbeats 1000000 in
set_option maxRecDepth 100000 in
theorem ip_V6_short8 (k : Nat) (a0 x y : ByteArray) (sh : Bool) (p q : List Int) (w : World) (hG : GW w) (hcut : strings_Cut.f a0 (⟨#[58, 58]⟩ : ByteArray) = some (x, y, true)) (hw : ip_words.f k x false = some (p, true)) (hw2 : ip_words.f k y true = some (q, true)) (hm : p.length < 8) (hq : q.length = 0) :
    Calls Tryd.prog 42 #[.string a0] w fun e w' => e = .returned (.tuple #[.agg (ip_V6_cells (ip_V6_put (ip_V6_put ip_V6_zeros 0 p 8) 0 q 0)), .bool true]) ∧ Below w.heap.size w w' := by
  have hu8 := Tryd.underlying72
  have A1 := Aside0.mk hcut
  have A2 := Aside0.mk hw
  clear hcut hw
  have A3 := Aside0.mk hw2
  clear hw2
  have t8 : decide (8 ≤ wrap64 ((p.length : Int) + q.length)) = false := decide_eq_false (by unfold wrap64; omega)
  have t9 : wrap64 (8 - (q.length : Int)) = 8 := by unfold wrap64; omega
  clear hm hq
  go_enter Tryd.func42, Tryd.ntmps42
  go_wp2_with (first | (go_at_call 50; (refine (strings_Cut.calls a0 ⟨#[58, 58]⟩ x y true _ (by exact GW_to hG (ip_V6_At.made w).2.2.1) A1.out).mono ?_); rintro e w' ⟨rfl, ⟨nd, rfl⟩⟩; generalize hW : World.drewN _ nd = W; have VA := Aside0.mk (show ip_V6_At w W ip_V6_zeros from by rw [← hW]; exact (ip_V6_At.made w).drewN nd); clear hW) | ((with_reducible refine gate_callee (f := 51) rfl ?_); refine goesL_ (some 21) rfl rfl Tryd.func51 (by kernel_rfl) rfl #[.string x, .bool false] rfl (by (try simp only [List.map_toArray, List.map_cons, List.map_nil]); first | done | rfl) ?_; (refine (ip_words.calls k x false p true _ (by exact GW_to hG VA.out.2.2.1) A2.out).mono ?_); rintro e w1 ⟨v1, rfl, hr, hb⟩; have VB := Aside0.mk (VA.out.below hb); obtain ⟨A, c, rfl, hA⟩ := ip_V6_row hr; have HA := Aside0.mk (show ip_V6_Row w1 (w.heap.size + 2) A p from ip_V6_base VA.out.2.2.2 hA); clear hA hr hb; refine ⟨_, rfl, ?_⟩) | ((with_reducible refine gate_callee (f := 51) rfl ?_); refine goesL_ (some 39) rfl rfl Tryd.func51 (by kernel_rfl) rfl #[.string y, .bool true] rfl (by (try simp only [List.map_toArray, List.map_cons, List.map_nil]); first | done | rfl) ?_; (refine (ip_words.calls k y true q true _ (by exact GW_to hG VB.out.2.2.1) A3.out).mono ?_); rintro e w2 ⟨v2, rfl, hr, hb⟩; have VC := Aside0.mk (VB.out.below hb); have HB := Aside0.mk (HA.out.below hb); obtain ⟨A', c', rfl, hA⟩ := ip_V6_row hr; have HQ := Aside0.mk (show ip_V6_Row w2 (w.heap.size + 2) A' q from ip_V6_base VB.out.2.2.2 hA); clear hA hr hb; refine ⟨_, rfl, ?_⟩) | (refine Lib.wpList_copy_run _ rfl (.tmp 53) (.tmp 54) 84 84 rfl (.slice (some ⟨w.heap.size + 1, 0, none⟩) 8 8) (.slice A p.length c) ?y1 ?y2 (ip_V6_copied (o := 0) (n := 8) VC.out HB.out ?y3 ?y4) ?_; (case y1 => rfl); (case y2 => rfl); (case y3 => first | rfl | exact ip_V6_put_len _ _ _ _ rfl (by omega)); (case y4 => omega); have HQ2 := Aside0.mk (HQ.out.setRow (Nat.lt_succ_self (w.heap.size + 1)) (ip_V6_cells (ip_V6_put ip_V6_zeros 0 p 8))); have VD := Aside0.mk (VC.out.copied (l' := (ip_V6_put ip_V6_zeros 0 p 8))); generalize World.setRow _ _ _ = W2 at VD HQ2 ⊢) | (refine Lib.wpList_copy_run _ rfl (.tmp 59) (.tmp 60) 84 84 rfl (.slice (some ⟨w.heap.size + 1, 0, none⟩) 0 0) (.slice A' q.length c') ?y1 ?y2 (ip_V6_copied (o := 0) (n := 0) VD.out HQ2.out ?y3 ?y4) ?_; (case y1 => rfl); (case y2 => rfl); (case y3 => first | rfl | exact ip_V6_put_len _ _ _ _ rfl (by omega)); (case y4 => omega); have VE := Aside0.mk (VD.out.copied (l' := (ip_V6_put (ip_V6_put ip_V6_zeros 0 p 8) 0 q 0))); generalize World.setRow _ _ _ = W3 at VE ⊢) | (refine wpList_load_row rfl 72 (.tmp 4) rfl (w.heap.size + 1) rfl 72 (ip_V6_cells (ip_V6_put (ip_V6_put ip_V6_zeros 0 p 8) 0 q 0)) (0, 0) _ VE.out.2.1 hu8 rfl (by kernel_rfl) ?_; refine wpList_store_row rfl 72 (.tmp 2) (.tmp 62) rfl w.heap.size (ip_V6_cells (ip_V6_put (ip_V6_put ip_V6_zeros 0 p 8) 0 q 0)) ?x1 ?x2 72 (ip_V6_cells ip_V6_zeros) VE.out.1 ?x3 ?x4 ?x5 ?_; (case x1 => rfl); (case x2 => rfl); (case x3 => exact (show (Tryd.prog.info? 72).map (·.size) = some 8 by kernel_rfl)); (case x4 => rfl); (case x5 => exact ip_V6_one _)))
  refine bodyPost_ret (results_ct rfl _ _ w.heap.size 72 (ip_V6_cells (ip_V6_put (ip_V6_put ip_V6_zeros 0 p 8) 0 q 0)) (0, 0) _ rfl (setRow_heap _ _ _ _ _ _ VE.out.1) Tryd.underlying72 rfl (show (Tryd.prog.info? 72).map (·.size) = some 8 by kernel_rfl)) rfl ⟨rfl, ip_V6_row_below VE.out.2.2.1 (Nat.le_refl _) _⟩
def ip_V6.f (k : Nat) (a0 : ByteArray) : Option (Int × Int × Int × Int × Int × Int × Int × Int × Bool) :=
  (strings_Cut.f a0 (⟨#[58, 58]⟩ : ByteArray)).bind fun c => (ip_words.f k c.1 (!c.2.2)).bind fun p =>
    if p.2 = false then some (ip_V6_tup ip_V6_zeros false)
    else if c.2.2 = false then (if p.1.length = 8 then some (ip_V6_tup (ip_V6_put ip_V6_zeros 0 p.1 8) true) else some (ip_V6_tup ip_V6_zeros false))
    else (ip_words.f k c.2.1 true).bind fun q =>
      if q.2 = false then some (ip_V6_tup ip_V6_zeros false)
      else if 8 ≤ wrap64 ((p.1.length : Int) + q.1.length) then some (ip_V6_tup ip_V6_zeros false)
      else if p.1.length + q.1.length < 8 then some (ip_V6_tup (ip_V6_put (ip_V6_put ip_V6_zeros 0 p.1 8) (8 - q.1.length) q.1 q.1.length) true) else none
theorem ip_V6.mono : ∀ a0 k, LeO (ip_V6.f k a0) (ip_V6.f (k + 1) a0) := by
  intro a0 k
  unfold ip_V6.f
  exact LeO.bind (LeO.refl _) (fun c => LeO.bind (ip_words.mono _ _ _) (fun p => LeO.ite (LeO.refl _) (LeO.ite (LeO.refl _) (LeO.bind (ip_words.mono _ _ _) (fun q => LeO.refl _)))))
theorem ip_V6_known {l : List Int} {b : Bool} {r1 r2 r3 r4 r5 r6 r7 r8 : Int} {r9 : Bool} (h : ip_V6_tup l b = (r1, r2, r3, r4, r5, r6, r7, r8, r9)) : ip_V6_cells l = #[.int .u16 r1, .int .u16 r2, .int .u16 r3, .int .u16 r4, .int .u16 r5, .int .u16 r6, .int .u16 r7, .int .u16 r8] ∧ b = r9 := by
  unfold ip_V6_tup at h
  simp only [Prod.mk.injEq] at h
  obtain ⟨rfl, rfl, rfl, rfl, rfl, rfl, rfl, rfl, rfl⟩ := h
  exact ⟨rfl, rfl⟩
theorem ip_V6.calls (k : Nat) (a0 : ByteArray) (r1 : Int) (r2 : Int) (r3 : Int) (r4 : Int) (r5 : Int) (r6 : Int) (r7 : Int) (r8 : Int) (r9 : Bool) (w : World) (hG : GW w) (h : ip_V6.f k a0 = some (r1, r2, r3, r4, r5, r6, r7, r8, r9)) :
    Calls Tryd.prog 42 #[.string a0] w fun e w' => e = .returned (.tuple #[.agg #[.int .u16 r1, .int .u16 r2, .int .u16 r3, .int .u16 r4, .int .u16 r5, .int .u16 r6, .int .u16 r7, .int .u16 r8], .bool r9]) ∧ Below w.heap.size w w' := by
  unfold ip_V6.f at h
  obtain ⟨⟨x, y, sh⟩, h1, h⟩ := Option.bind_eq_some_iff.1 h
  obtain ⟨⟨p, ok⟩, h2, h⟩ := Option.bind_eq_some_iff.1 h
  simp only at h2 h
  cases ok with
  | false =>
    rw [if_pos rfl] at h
    obtain ⟨e1, e2⟩ := ip_V6_known (Option.some.inj h)
    rw [← e1, ← e2]
    exact ip_V6_no1 k a0 x y sh p [] w hG h1 h2
  | true =>
    rw [if_neg (by simp)] at h
    cases sh with
    | false =>
      rw [if_pos rfl] at h
      by_cases h8 : p.length = 8
      · rw [if_pos h8] at h
        obtain ⟨e1, e2⟩ := ip_V6_known (Option.some.inj h)
        rw [← e1, ← e2]
        exact ip_V6_full k a0 x y false p [] w hG h1 h2 h8
      · rw [if_neg h8] at h
        obtain ⟨e1, e2⟩ := ip_V6_known (Option.some.inj h)
        rw [← e1, ← e2]
        exact ip_V6_few k a0 x y false p [] w hG h1 h2 h8
    | true =>
      rw [if_neg (by simp)] at h
      obtain ⟨⟨q, ok2⟩, h3, h⟩ := Option.bind_eq_some_iff.1 h
      simp only at h3 h
      cases ok2 with
      | false =>
        rw [if_pos rfl] at h
        obtain ⟨e1, e2⟩ := ip_V6_known (Option.some.inj h)
        rw [← e1, ← e2]
        exact ip_V6_no2 k a0 x y true p q w hG h1 h2 h3
      | true =>
        rw [if_neg (by simp)] at h
        by_cases hm : 8 ≤ wrap64 ((p.length : Int) + q.length)
        · rw [if_pos hm] at h
          obtain ⟨e1, e2⟩ := ip_V6_known (Option.some.inj h)
          rw [← e1, ← e2]
          exact ip_V6_many k a0 x y true p q w hG h1 h2 h3 hm
        · rw [if_neg hm] at h
          by_cases hl : p.length + q.length < 8
          · rw [if_pos hl] at h
            obtain ⟨e1, e2⟩ := ip_V6_known (Option.some.inj h)
            rw [← e1, ← e2]
            by_cases h0 : q.length = 0
            · have := ip_V6_short8 k a0 x y true p q w hG h1 h2 h3 (by omega) h0
              obtain rfl : q = [] := List.eq_nil_of_length_eq_zero h0
              have e : ip_V6_put (ip_V6_put ip_V6_zeros 0 p 8) (8 - 0) [] 0 = ip_V6_put (ip_V6_put ip_V6_zeros 0 p 8) 0 [] 0 := by
                generalize ip_V6_put ip_V6_zeros 0 p 8 = l
                unfold ip_V6_put
                simp
              simp only [List.length_nil]
              rw [e]
              exact this
            · have := ip_V6_short k a0 x y true p q w hG h1 h2 h3 hl (8 - q.length) (by omega) (by omega)
              rw [show 8 - (8 - q.length) = q.length from by omega] at this
              exact this
          · rw [if_neg hl] at h; cases h
end Go.Proofs.YtpmflpeckoeooaaDoor.X
