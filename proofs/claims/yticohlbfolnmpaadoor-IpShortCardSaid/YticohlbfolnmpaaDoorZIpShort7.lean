/- Texts that the law's proof needs, joined by a program of this session. -/
import Derived.Test.YticohlbfolnmpaaDoorZIpShort0
import Derived.Test.YticohlbfolnmpaaDoorZIpShort1
import Derived.Test.YticohlbfolnmpaaDoorZIpShort2
import Derived.Test.YticohlbfolnmpaaDoorZIpShort3
import Derived.Test.YticohlbfolnmpaaDoorZIpShort4
import Derived.Test.YticohlbfolnmpaaDoorZIpShort5
import Derived.Test.YticohlbfolnmpaaDoorZIpShort6
import Derived.Lib.Bytealg
import Derived.Laws.Strings
import Derived.Lib.Split
import Derived.Lib.SplitLaws
set_option maxHeartbeats 8000000
set_option maxRecDepth 100000
set_option linter.unusedSimpArgs false
set_option linter.unusedVariables false
namespace Go.Proofs.YticohlbfolnmpaaDoor.X
open Go.RowKit Go.Proofs.YticohlbfolnmpaaDoorW.PrintWords Go.Proofs.YticohlbfolnmpaaDoorW.PrintLast Go.Proofs.YticohlbfolnmpaaDoorW.PrintMore
attribute [local go_sem] bA bn cl dg dO cA dh cu cw cY cZ ci cj cv cx
attribute [local go_sem high] lT
def de (l0 : List ByteArray) (a1 : ByteArray) : Option ByteArray := if l0.length ≤ 140737488355328 ∧ (Go.Lib.join (l0.map (·.data.toList)) a1.data.toList).length ≤ 140737488355328 then some ⟨(Go.Lib.join (l0.map (·.data.toList)) a1.data.toList).toArray⟩ else none
theorem gB (A0 : Option Addr) (c0 : Nat) (l0 : List ByteArray) (a1 : ByteArray) (r : ByteArray) (w : World) (hr0 : Kd.C Kd.string w A0 l0.length l0) (hc0 : l0.length ≤ c0) (h : de l0 a1 = some r) :
    Calls Tryd.prog 36 #[.slice A0 l0.length c0, .string a1] w fun e w' => e = .returned (.string r) ∧ Below w.heap.size w w' := by
  unfold de at h
  by_cases hs : l0.length ≤ 140737488355328 ∧ (Go.Lib.join (l0.map (·.data.toList)) a1.data.toList).length ≤ 140737488355328
  · rw [if_pos hs] at h
    obtain rfl := Option.some.inj h
    cases l0 with
    | nil =>
      refine (Tryd.strings_Join_none A0 c0 a1 w).mono ?_
      rintro e w' ⟨rfl, rfl⟩
      exact ⟨rfl, Below.refl _ _⟩
    | cons x l =>
      obtain ⟨ad, rfl, hc⟩ := hr0.2.2 (by simp)
      have hcell : ∀ (j : Nat) y, (x :: l)[j]? = some y → w.cell? (ad.add j) = some (.string y) := by
        intro j y hj
        obtain ⟨c, hl, hk, hu⟩ := hc j y hj
        have hk : c = [Value.string y] := hk
        subst hk
        have h1 := hu 0 _ rfl
        simpa [Kd.string, Kd.scalar] using h1
      have h0 := hcell 0 x rfl
      have h0 : w.cell? ad = some (.string x) := by simpa [Addr.add] using h0
      obtain ⟨bk, o, sp⟩ := ad
      have hsp : sp = none := by
        cases sp with
        | none => rfl
        | some z => unfold World.cell? at h0; split at h0 <;> simp at h0
      subst hsp
      refine (Tryd.strings_Join bk o c0 (x :: l) a1 w ?_ (World.block_lt_of_cell? w _ h0) hs.1 hc0 hs.2).mono ?_
      · intro j y hj
        have h1 := hcell j y hj
        have ha : (⟨bk, o, none⟩ : Addr).add j = ⟨bk, o + j, none⟩ := by unfold Addr.add; split <;> simp_all
        rwa [ha] at h1
      · rintro e w' ⟨rfl, hb⟩
        exact ⟨rfl, hb⟩
  · rw [if_neg hs] at h; cases h
set_option maxHeartbeats 2000000 in
theorem fl (w : World) (hc : w.cell? ⟨5, 15, none⟩ = some (.int .u8 4)) : Calls Tryd.prog 104 #[.int .u64 16] w fun e w' => e = .returned (.int .i64 4) ∧ w' = w := by
  have hx : IntKind.u64.wrap (bits BinOp.and IntKind.u64 16 (IntKind.u64.wrap (-16)) * 285870213051353865) / 288230376151711744 = 15 := by decide +kernel
  go_enter Tryd.func104, Tryd.ntmps104
  go_wp2
  go_ret
  exact ⟨rfl, rfl⟩
set_option maxHeartbeats 2000000 in
theorem fT (w : World) (hc : w.cell? ⟨5, 15, none⟩ = some (.int .u8 4)) : Calls Tryd.prog 102 #[.int .u64 16] w fun e w' => e = .returned (.int .i64 4) ∧ w' = w := by
  go_enter Tryd.func102, Tryd.ntmps102
  go_wp2_with (go_at_call 104; refine (fl w hc).mono ?_; rintro e w' ⟨rfl, rfl⟩)
  go_ret
  exact ⟨rfl, rfl⟩
set_option maxHeartbeats 2000000 in
theorem fk (w : World) : Calls Tryd.prog 101 #[.int .i64 16] w fun e w' => e = .returned (.bool true) ∧ w' = w := by
  have hx : bits BinOp.and IntKind.i64 16 (15) = 0 := by decide +kernel
  go_enter Tryd.func101, Tryd.ntmps101
  go_wp2
  go_ret
  exact ⟨by simp, rfl⟩
def aT (n : Nat) : UInt8 := if n < 10 then UInt8.ofNat (48 + n) else UInt8.ofNat (87 + n)
def ao (u c : Nat) : Array Value := ((List.range 65).map fun t => Value.int .u8 (if 65 - c ≤ t then ((aT (u / 16 ^ (64 - t) % 16)).toNat : Int) else 0)).toArray
def aA (u c : Nat) : List UInt8 := (List.range (c + 1)).map fun t => aT (u / 16 ^ (c - t) % 16)
def aM (u : Nat) : Nat := if u < 16 then 0 else if u < 256 then 1 else if u < 4096 then 2 else 3
theorem eO (u c : Nat) (hu : u < 65536) (h3 : c ≤ 3) (h : u / 16 ^ c < 16) (h2 : c = 0 ∨ 16 ≤ u / 16 ^ (c - 1)) : c = aM u := by
  have h4 : c = 0 ∨ c = 1 ∨ c = 2 ∨ c = 3 := by omega
  unfold aM
  rcases h4 with rfl | rfl | rfl | rfl <;> simp at h h2 <;> (repeat' split) <;> omega
theorem dk (k : Nat) (hk : k < 16) (hh : k < (⟨#[48, 49, 50, 51, 52, 53, 54, 55, 56, 57, 97, 98, 99, 100, 101, 102, 103, 104, 105, 106, 107, 108, 109, 110, 111, 112, 113, 114, 115, 116, 117, 118, 119, 120, 121, 122]⟩ : ByteArray).size) : (⟨#[48, 49, 50, 51, 52, 53, 54, 55, 56, 57, 97, 98, 99, 100, 101, 102, 103, 104, 105, 106, 107, 108, 109, 110, 111, 112, 113, 114, 115, 116, 117, 118, 119, 120, 121, 122]⟩ : ByteArray)[k]'hh = aT k := by
  have : k = 0 ∨ k = 1 ∨ k = 2 ∨ k = 3 ∨ k = 4 ∨ k = 5 ∨ k = 6 ∨ k = 7 ∨ k = 8 ∨ k = 9 ∨ k = 10 ∨ k = 11 ∨ k = 12 ∨ k = 13 ∨ k = 14 ∨ k = 15 := by omega
  rcases this with rfl | rfl | rfl | rfl | rfl | rfl | rfl | rfl | rfl | rfl | rfl | rfl | rfl | rfl | rfl | rfl <;> rfl
theorem dd (u c t : Nat) (ht : t < 65) : (ao u c)[t]? = some (Value.int .u8 (if 65 - c ≤ t then ((aT (u / 16 ^ (64 - t) % 16)).toNat : Int) else 0)) := by
  simp [ao, ht]
theorem cR (u c v i : Nat) (hc : c ≤ 3) (hi : i = 65 - c) (hv : v = u / 16 ^ c) : (ao u c).setIfInBounds (i - 1) (.int .u8 ((aT (v % 16)).toNat : Int)) = ao u (c + 1) := by
  subst hi hv
  apply Array.ext (by simp [ao])
  intro t h1 h2
  have ht : t < 65 := by simpa [ao] using h2
  have hs : t < (ao u c).size := by simpa [ao] using ht
  have e1 : ∀ (c' : Nat) (h : t < (ao u c').size), (ao u c')[t]'h = Value.int .u8 (if 65 - c' ≤ t then ((aT (u / 16 ^ (64 - t) % 16)).toNat : Int) else 0) := fun c' h => by simp [ao]
  rw [Array.getElem_setIfInBounds hs, e1 (c + 1) h2]
  by_cases he : 65 - c - 1 = t
  · rw [if_pos he, if_pos (by omega), show 64 - t = c by omega]
  · rw [if_neg he, e1 c hs]
    by_cases h : 65 - c ≤ t
    · rw [if_pos h, if_pos (by omega)]
    · rw [if_neg h, if_neg (by omega)]
theorem e5 (v : Nat) (hv : v < 65536) : bits BinOp.and IntKind.u64 v 15 = ((v % 16 : Nat) : Int) := by
  have h := bits_mask .u64 63 (by decide) (fun n h0 h1 => by rw [IntKind.wrap_u64]; omega) 4 (by decide) (v : Int) (by omega) (by omega)
  simpa using h
theorem eP (u : Nat) : Tryd.zeroCells133 = ao u 0 := by
  have h : Tryd.zeroCells133 = Array.replicate 65 (.int .u8 0) := by kernel_rfl
  rw [h]
  apply Array.ext (by simp [ao])
  intro t h1 h2
  have ht : t < 65 := by simpa using h1
  simp [ao]
  omega
set_option maxHeartbeats 2000000 in
theorem fS (u : Nat) (hu : u < 65536) (w : World) (hc : w.cell? ⟨5, 15, none⟩ = some (.int .u8 4)) : Calls Tryd.prog 91 #[.slice none 0 0, .int .u64 u, .int .i64 16, .bool false, .bool false] w fun e w' => e = .returned (.tuple #[.slice none 0 0, .string ⟨(aA u (aM u)).toArray⟩]) ∧ Below w.heap.size w w' := by
  have hc1 := cH ((Below.refl w.heap.size w).alloc (Nat.le_refl _) (Obj.cells Tryd.zeroCells133 133)) hc
  have hb1 := heap_alloc_new w (Obj.cells Tryd.zeroCells133 133)
  have hB1 := (Below.refl w.heap.size w).alloc (Nat.le_refl _) (Obj.cells Tryd.zeroCells133 133)
  go_enter Tryd.func91, Tryd.ntmps91
  go_wp2_with (first | (go_at_call 101; refine (fk _).mono ?_; rintro e w' ⟨rfl, rfl⟩))
  refine (fT _ hc1).mono ?_
  rintro e w' ⟨rfl, rfl⟩
  generalize (w.alloc (Obj.cells Tryd.zeroCells133 133)) = w1 at *
  go_wp2
  go_loopw [1, 13] (fun vu vi wr => ∃ c v i : Nat, Zz (c ≤ 3 ∧ v = u / 16 ^ c ∧ i = 65 - c ∧ (c = 0 ∨ 16 ≤ u / 16 ^ (c - 1))) ∧ v < 65536 ∧ 62 ≤ i ∧ i ≤ 65 ∧ vu = .int .u64 v ∧ vi = .int .i64 i ∧ Zz (wr.heap[w.heap.size]? = some (.cells (ao u c) 133 (0, 0))) ∧ Zz (Below w.heap.size w wr) ∧ 0 ≤ c) (fun vu _ _ => (RowKit.intOf vu).toNat)
  case atStart => exact ⟨0, u, 65, ⟨by omega, by simp, rfl, .inl rfl⟩, hu, by omega, by omega, rfl, rfl, ⟨by rw [← eP u]; exact hb1⟩, ⟨hB1⟩, by omega⟩
  case round =>
    obtain ⟨c, v, i, H1, hv, hi1, hi2, rfl, rfl, hb, hB, hcu⟩ := hrel
    have hfz := gX hb.out (i - 1)
    have hcl : wr.cell? ⟨w.heap.size, i - 1, none⟩ = some (.int .u8 0) := by rw [ba hb.out, dd _ _ _ (by omega), if_neg (by have := H1.out; omega)]
    have hbit := e5 v hv
    by_cases h16 : 16 ≤ v
    · go_wp2
      have e1 := cR u c v i H1.out.1 H1.out.2.2.1 H1.out.2.1
      clear hbit
      refine ⟨⟨c + 1, v / 16, i - 1, ⟨?_⟩, by omega, ?_, by omega, by go_num, by go_num, ⟨?_⟩, ⟨eD hB.out (Nat.le_refl _)⟩, by omega⟩, ?_⟩
      · have h1 := H1.out
        have h3 : c = 0 ∨ c = 1 ∨ c = 2 ∨ c = 3 := by omega
        obtain ⟨-, h2, h4, -⟩ := h1
        refine ⟨?_, ?_, by omega, .inr (by rw [Nat.add_sub_cancel, ← h2]; exact h16)⟩
        · rcases h3 with rfl | rfl | rfl | rfl <;> simp at h2 <;> omega
        · rw [h2, Nat.pow_succ, Nat.div_div_eq_div_mul]
      · have h1 := H1.out
        obtain ⟨-, h2, h4, -⟩ := h1
        have h3 : c = 0 ∨ c = 1 ∨ c = 2 ∨ c = 3 := by omega
        rcases h3 with rfl | rfl | rfl | rfl <;> simp at h2 <;> omega
      · rw [dk (v % 16) (by omega)]
        exact ag hb.out _ _ e1
      · simp [RowKit.intOf]; omega
    · have hsl : ∀ W, (Instr.sliceAt 133 (.pointer (some ⟨w.heap.size, 0, none⟩)) (some (.int .i64 (↑i - 1))) none none).run Tryd.prog W = .ok (.slice (some ⟨w.heap.size, i - 1, none⟩) (66 - i) (66 - i)) W := fun W => by
        rw [run_sliceAt_array_l W 133 ⟨w.heap.size, 0, none⟩ (by simp [Program.arrayLen, Program.elem, Tryd.underlying133]) .i64 (i - 1) (by omega) (by simp [Program.arrayLen, Tryd.underlying133]; omega)]
        go_simp
        omega
      go_upto_region 30 with fail
      go_name_world W1 hW1
      have hb1 : W1.heap[w.heap.size]? = some (.cells (ao u (c + 1)) 133 (0, 0)) := by
        rw [← hW1, dk v (by omega)]
        refine ag hb.out _ _ ?_
        have e1 := cR u c v i H1.out.1 H1.out.2.2.1 H1.out.2.1
        rwa [Nat.mod_eq_of_lt (by omega)] at e1
      have hB1 : Below w.heap.size w W1 := by rw [← hW1]; exact eD hB.out (Nat.le_refl _)
      have hcv : (convert 77 9 (.slice (some ⟨w.heap.size, i - 1, none⟩) (66 - i) (66 - i))).run Tryd.prog W1 = .ok (.string ⟨(aA u (aM u)).toArray⟩) W1 := by
        have hc0 : c = aM u := eO u c hu H1.out.1 (by rw [← H1.out.2.1]; omega) H1.out.2.2.2
        have hci := H1.out.2.2.1
        have h := run_convert_bytes_back (P := Tryd.prog) W1 77 9 5 ⟨w.heap.size, i - 1, none⟩ (66 - i) (aA u c) Tryd.underlying77 Tryd.underlying5 Tryd.underlying9 (fun j hj => by
          have hj2 : j < c + 1 := by simpa [aA] using hj
          have ha : (⟨w.heap.size, i - 1, none⟩ : Addr).add j = ⟨w.heap.size, i - 1 + j, none⟩ := by unfold Addr.add; split <;> simp_all
          rw [ha, ba hb1, dd _ _ _ (by omega), if_pos (by omega)]
          simp only [aA, List.getElem_map, List.getElem_range]
          rw [show 64 - (i - 1 + j) = c - j by omega])
        rw [show (aA u c).length = 66 - i by simp [aA]; omega] at h
        rw [← hc0]
        exact h
      clear hW1
      go_wp2
      refine bodyPost_ret (results_tmp2 rfl _ _ _) rfl ⟨rfl, hB1⟩
set_option maxHeartbeats 2000000 in
theorem fF (u : Nat) (hu : u < 65536) (w : World) (hc : w.cell? ⟨5, 15, none⟩ = some (.int .u8 4)) : Calls Tryd.prog 66 #[.int .u64 u, .int .i64 16] w fun e w' => e = .returned (.string ⟨(aA u (aM u)).toArray⟩) ∧ Below w.heap.size w w' := by
  go_enter Tryd.func66, Tryd.ntmps66
  go_wp2_with (go_at_call 91; refine (fS u hu _ (by first | exact hc | exact cH ((Below.refl _ _).alloc (Nat.le_refl _) _) hc)).mono ?_; rintro e w' ⟨rfl, hb⟩)
  go_ret
  exact ⟨rfl, by first | exact hb | exact ((Below.refl _ _).alloc (Nat.le_refl _) _).trans (hb.mono (by simp))⟩
set_option maxHeartbeats 2000000 in
theorem fG (u : Nat) (hu : u < 65536) (w : World) (hc : w.cell? ⟨5, 15, none⟩ = some (.int .u8 4)) : Calls Tryd.prog 48 #[.int .u64 u, .int .i64 16] w fun e w' => e = .returned (.string ⟨(aA u (aM u)).toArray⟩) ∧ Below w.heap.size w w' := by
  go_enter Tryd.func48, Tryd.ntmps48
  go_wp2_with (go_at_call 66; refine (fF u hu _ hc).mono ?_; rintro e w' ⟨rfl, hb⟩)
  go_ret
  exact ⟨rfl, hb⟩
def bZ (a0 : Int) (a1 : Int) : Option ByteArray := if a1 = 16 ∧ 0 ≤ a0 ∧ a0 < 65536 then some ⟨(aA a0.toNat (aM a0.toNat)).toArray⟩ else none
theorem fg (a0 : Int) (a1 : Int) (r : ByteArray) (w : World) (hG : GW w) (h : bZ a0 a1 = some r) :
    Calls Tryd.prog 48 #[.int .u64 a0, .int .i64 a1] w fun e w' => e = .returned (.string r) ∧ Below w.heap.size w w' := by
  unfold bZ at h
  by_cases hc : a1 = 16 ∧ 0 ≤ a0 ∧ a0 < 65536
  · rw [if_pos hc] at h
    obtain rfl := Option.some.inj h
    obtain ⟨rfl, h0, h1⟩ := hc
    have := fG a0.toNat (by omega) w (hG.t5.cell (by kernel_rfl) 15 (by decide))
    rw [Int.toNat_of_nonneg h0] at this
    exact this
  · rw [if_neg hc] at h; cases h
def bL : Nat → List ByteArray → List Int → Int → Int → Option (ByteArray)
  | 0, _, _, _, _ => none
  | k + 1, x3, x6, x7, x8 => if x8 < x7 then (if 0 ≤ x8 then (if x8 < (x6.length : Int) then ((bZ (IntKind.u64.wrap (rd x6 x8)) 16).bind fun t196 => (if x3.length < 8796093022208 then (bL k (x3 ++ [t196]) x6 x7 (wrap64 (x8 + 1))) else (none))) else (none)) else (none)) else ((de x3 (⟨#[58]⟩ : ByteArray)).bind fun t200 => (some t200))
def dp (k : Nat) (l0 : List Int) : Option (ByteArray) := bL k ([] : List ByteArray) l0 (l0.length : Int) 0
theorem gb : ∀ k, (∀ y0 y1 y2 y3, LeO (bL k y0 y1 y2 y3) (bL (k + 1) y0 y1 y2 y3))
  | 0 => fun _ _ _ _ r h => by simp [bL] at h
  | k + 1 => by
    have ih0 := gb k
    · intro y0 y1 y2 y3
      unfold bL
      exact xmo
theorem fA : ∀ a0 k, LeO (dp k a0) (dp (k + 1) a0) := by
  intro a0 k
  have ih0 := gb k
  unfold dp
  exact xmo
theorem fc (k : Nat) (A0 : Option Addr) (c0 : Nat) (l0 : List Int) (r : ByteArray) (w : World) (hr0 : Kd.C (Kd.int .u16) w A0 l0.length l0) (hc0 : l0.length ≤ c0) (hG : GW w) (h : dp k l0 = some r) :
    Calls Tryd.prog 34 #[.slice A0 l0.length c0] w fun e w' => e = .returned (.string r) ∧ Below w.heap.size w w' := by
 have HR0 := Zz.mk hr0
 have Ap := Zz.mk hc0
 clear hr0 hc0
 have HB := Zz.mk (Below.refl w.heap.size w)
 have H : (bL k ([] : List ByteArray) l0 (l0.length : Int) 0) = some r := h
 clear h
 have H' := Zz.mk H
 clear H
 go_enter Tryd.func34, Tryd.ntmps34
 go_wp2
 go_loopg [3, 8] k (fun kq v3 v8 w' => ∃ (Ad : List ByteArray) (Aa : Int), v8 = .int .i64 Aa ∧ Zz (bL kq Ad l0 (l0.length : Int) Aa = some r) ∧ Zz (kq ≤ k) ∧ Zz (Kd.R Kd.string 9 w' w.heap.size (fun _ => True) v3 Ad) ∧ Zz (Below w.heap.size w w'))
 case atStart => exact ⟨(([] : List ByteArray)), (0), xrr, H', ⟨Nat.le_refl _⟩, ⟨by first | exact Kd.R_nil _ _ _ _ _ | exact Kd.N_nil _ _ _ _ _ | exact Kd.V_nil _ _ _ _ _ | exact Kd.Q_nil _ _ _ _ _ | exact Kd.S_nil _ _ _ _ _⟩, ⟨xbl⟩⟩
 case round =>
  clear H'
  obtain ⟨Ad, Aa, rfl, HA, HK1, Ab, HB⟩ := hrel
  cases gk with
  | zero => exact absurd HA.out (by simp [bL])
  | succ k1 =>
   have H := HA.out
   clear HA
   simp only [bL] at H
   by_cases c2 : Aa < (l0.length : Int)
   ·
    rw [if_pos c2] at H
    have Ak := decide_eq_true c2
    clear c2
    by_cases c3 : 0 ≤ Aa
    ·
     rw [if_pos c3] at H
     have An := decide_eq_true c3
     clear c3
     by_cases c4 : Aa < (l0.length : Int)
     ·
      rw [if_pos c4] at H
      have Ao := decide_eq_true c4
      clear c4
      replace H := Option.bind_eq_some_iff.mp H
      obtain ⟨Af, A50, H⟩ := H
      try dsimp only at H
      have A5 := Zz.mk A50
      clear A50
      by_cases c6 : Ad.length < 8796093022208
      ·
       rw [if_pos c6] at H
       have LMc6 := Zz.mk c6
       clear c6
       obtain ⟨Ag, Ae⟩ : ∃ y_ : List ByteArray, y_ = (Ad ++ [Af]) := ⟨_, rfl⟩
       replace H : (bL k1 Ag l0 (l0.length : Int) (wrap64 (Aa + 1))) = some r := by first | (rw [Ae]; with_reducible exact H) | (have H2_ := (Option.bind_some _ _).symm.trans H; rw [Ae]; with_reducible exact H2_) | (have H2_ := (Option.bind_some _ _).symm.trans H; with_reducible exact H2_) | with_reducible exact H | (rw [Ae]; exact H) | exact H
       have Ah := Zz.mk Ae
       clear Ae
       have H' := Zz.mk H
       clear H
       have p195 : 0 ≤ (Aa : Int) := xod
       have q195 : Aa < (l0.length : Int) := xod
       obtain ⟨Am, e195, Ac⟩ := Kd.at_int HR0.out Aa p195 q195
       cases e195
       replace Ac := (HB.out.cell (World.block_lt_of_cell? w _ Ac)).trans Ac
       replace p195 := eq_true p195
       replace q195 := eq_true q195
       try (have Ai := q195; simp only [ByteArray.size_extract, Nat.min_self] at Ai)
       go_wp2_with (first | ((with_reducible refine ae (f := 48) rfl ?_); refine xgl 15 Tryd.func48 #[.int .u64 (IntKind.u64.wrap (rd l0 Aa)), .int .i64 16] ?_; (with_reducible refine (fg (IntKind.u64.wrap (rd l0 Aa)) 16 Af _ ?side1 A5.out).mono ?_); (case side1 => first | (with_reducible exact hG) | exact aJ hG xbl); rintro e w7 ⟨rfl, hb⟩; refine ⟨_, rfl, ?_⟩; replace Ab := Zz.mk (Kd.R_below (xkd Ab) hb); replace HB := xst hb; (try clear hb)) | ((with_reducible refine e9 (b := .append) (xs := #[.tmp 12, .tmp 16]) rfl ?_); at_builtin; refine Kd.R_append Kd.string (w0 := w) w.heap.size rfl (.tmp 12) (.tmp 16) 43 9 (.string ⟨#[]⟩) 16 rfl Tryd.underlying43 lW rfl (by decide) (by omega) u3 Ad Af [.string Af] (fun _ => True) (fun _ => False) rfl rfl ?aP (fun _ hk => hk.elim) ?aF ?aO ?aB ?aS ?aL ?_; (case aP => exact rfl); (case aB => exact xbl); (case aF => exact (fun _ _ => trivial)); (case aO => exact (xkd Ab)); (case aS => exact (co xbl)); (case aL => have := LMc6.out; first | omega | exact Nat.le_of_lt this); intro v198 w8 ho hb hg hat; rw [← Ah.out] at ho; have n0_ := Zz.mk (hb); have n1_ := Zz.mk (ho); clear HB; clear Ab; have HB := n0_; have Aj := n1_; clear n0_ n1_; clear ho hb hg hat))
       go_roundg k1
       case measure => have := HK1.out; omega
       case rel => exact ⟨(Ag), (wrap64 (Aa + 1)), xrr, H', ⟨by have := HK1.out; omega⟩, ⟨xkd Aj⟩, ⟨xbl⟩⟩
      ·
       rw [if_neg c6] at H
       exact absurd H (by simp)
     ·
      rw [if_neg c4] at H
      exact absurd H (by simp)
    ·
     rw [if_neg c3] at H
     exact absurd H (by simp)
   ·
    rw [if_neg c2] at H
    have Ak := decide_eq_false c2
    clear c2
    replace H := Option.bind_eq_some_iff.mp H
    obtain ⟨Al, A90, H⟩ := H
    try dsimp only at H
    have A9 := Zz.mk A90
    clear A90
    obtain rfl := Option.some.inj H
    obtain ⟨Ao10, co10, eo10⟩ := Kd.R_slice Ab.out
    subst eo10
    go_wp2_with (first | ((with_reducible refine ae (f := 36) rfl ?_); refine xgl 20 Tryd.func36 #[.slice Ao10 Ad.length co10, .string (⟨#[58]⟩ : ByteArray)] ?_; (with_reducible refine (gB _ _ Ad (⟨#[58]⟩ : ByteArray) Al _ ?side1 ?side2 A9.out).mono ?_); (case side1 => repeat (first | exact (Kd.R_reads' Ab.out).2.2 | (with_reducible refine Kd.C_alloc ?_ _) | (with_reducible refine Kd.C_drewN ?_ _) | (with_reducible refine Kd.C_drew ?_))); (case side2 => exact (Kd.R_reads' Ab.out).2.1); rintro e w11 ⟨rfl, hb⟩; refine ⟨_, rfl, ?_⟩; replace Ab := Zz.mk (Kd.R_below (xkd Ab) hb); replace HB := xst hb; (try clear hb)))
    go_ret
    exact ⟨xre, xbl⟩
theorem f0 {w : World} {g o : Nat} {cs : Array Value} {t : TypeId} {n : Nat} (xs : List Int) (h : w.heap[g]? = some (.cells cs t (0, 0))) (hn : xs.length = n) (hx : ∀ j p, xs[j]? = some p → cs[o + j]? = some (.int .u16 p)) (hl : xs.length ≤ 9223372036854775807) : Kd.C (Kd.int .u16) w (some ⟨g, o, none⟩) n xs := by
  refine ⟨hn, hn ▸ hl, fun _ => ⟨_, rfl, fun j p hj => ⟨[.int .u16 p], rfl, rfl, fun i u hu => ?_⟩⟩⟩
  cases i with
  | succ i => simp at hu
  | zero =>
    simp only [List.getElem?_cons_zero, Option.some.injEq] at hu
    subst hu
    have ha : (⟨g, o, none⟩ : Addr).add (j * (Kd.int .u16).sz + 0) = ⟨g, o + j, none⟩ := by
      have e : j * (Kd.int .u16).sz + 0 = j := by show j * 1 + 0 = j; omega
      rw [e]; unfold Addr.add; split <;> simp_all
    rw [ha, ba h]
    exact hx j p hj
set_option maxHeartbeats 2000000 in
theorem hJ (a0 a1 a2 a3 a4 a5 a6 a7 r1 : Int) (x : ByteArray) (w : World)
    (hg : ∀ w, Calls Tryd.prog 33 #[.agg #[.int .u16 a0, .int .u16 a1, .int .u16 a2, .int .u16 a3, .int .u16 a4, .int .u16 a5, .int .u16 a6, .int .u16 a7]] w fun e w' => e = .returned (.tuple #[.int .i64 r1, .int .i64 0]) ∧ Below w.heap.size w w')
    (hx : ∀ A c w1, Below w.heap.size w w1 → Kd.C (Kd.int .u16) w1 A 8 [a0, a1, a2, a3, a4, a5, a6, a7] → 8 ≤ c → Calls Tryd.prog 34 #[.slice A 8 c] w1 fun e w' => e = .returned (.string x) ∧ Below w1.heap.size w1 w') :
    Calls Tryd.prog 16 #[.agg #[.int .u16 a0, .int .u16 a1, .int .u16 a2, .int .u16 a3, .int .u16 a4, .int .u16 a5, .int .u16 a6, .int .u16 a7]] w fun e w' => e = .returned (.string x) ∧ Below w.heap.size w w' := by
  have hsl : ∀ W, (Instr.sliceAt 27 (.pointer (some ⟨w.heap.size, 0, none⟩)) none none none).run Tryd.prog W = .ok (.slice (some ⟨w.heap.size, 0, none⟩) 8 8) W := fun W => by
    rw [run_sliceAt_array_all W 27 ⟨w.heap.size, 0, none⟩ (by simp [Program.arrayLen, Program.elem, Tryd.underlying27])]
    go_simp
  go_enter Tryd.func16, Tryd.ntmps16
  go_wp2_with (go_at_call 33; refine (hg _).mono ?_; rintro e w' ⟨rfl, hb⟩)
  have h1 := eE (hE w _) hb
  have h2 := ((Below.refl w.heap.size w).alloc (Nat.le_refl _) _).trans (hb.mono (by simp))
  refine (hx _ _ _ h2 (f0 _ h1 rfl ?_ (by simp)) (by decide)).mono ?_
  · intro j p hj
    have hj2 : j < 8 := by have := (List.getElem?_eq_some_iff.1 hj).1; simpa using this
    match j, hj2 with
    | 0, _ | 1, _ | 2, _ | 3, _ | 4, _ | 5, _ | 6, _ | 7, _ => simp at hj ⊢; exact hj
  rintro e w2 ⟨rfl, hb2⟩
  go_wp2
  go_ret
  exact ⟨rfl, h2.trans (hb2.mono h2.size)⟩
set_option maxHeartbeats 4000000 in
theorem iv (a0 a1 a2 a3 a4 a5 a6 a7 : Int) (n1 n2 : Nat) (hn : n1 + n2 ≤ 8) (hn2 : n2 ≠ 0) (x y : ByteArray) (hs1 : x.size + 2 ≤ 9223372036854775807) (hs2 : x.size + 2 + y.size ≤ 9223372036854775807) (o : Nat) (ho : n1 + n2 < 8 ∧ o = n1 + n2 ∨ n1 + n2 = 8 ∧ o = 0) (w : World)
    (hg : ∀ w, Calls Tryd.prog 33 #[.agg #[.int .u16 a0, .int .u16 a1, .int .u16 a2, .int .u16 a3, .int .u16 a4, .int .u16 a5, .int .u16 a6, .int .u16 a7]] w fun e w' => e = .returned (.tuple #[.int .i64 n1, .int .i64 n2]) ∧ Below w.heap.size w w')
    (hx : ∀ A c w1, Below w.heap.size w w1 → Kd.C (Kd.int .u16) w1 A n1 ([a0, a1, a2, a3, a4, a5, a6, a7].take n1) → n1 ≤ c → Calls Tryd.prog 34 #[.slice A n1 c] w1 fun e w' => e = .returned (.string x) ∧ Below w1.heap.size w1 w')
    (hy : ∀ A c w1, Below w.heap.size w w1 → Kd.C (Kd.int .u16) w1 A (8 - (n1 + n2)) ([a0, a1, a2, a3, a4, a5, a6, a7].drop (n1 + n2)) → 8 - (n1 + n2) ≤ c → Calls Tryd.prog 34 #[.slice A (8 - (n1 + n2)) c] w1 fun e w' => e = .returned (.string y) ∧ Below w1.heap.size w1 w') :
    Calls Tryd.prog 16 #[.agg #[.int .u16 a0, .int .u16 a1, .int .u16 a2, .int .u16 a3, .int .u16 a4, .int .u16 a5, .int .u16 a6, .int .u16 a7]] w fun e w' => e = .returned (.string (x ++ (⟨#[58, 58]⟩ : ByteArray) ++ y)) ∧ Below w.heap.size w w' := by
  have hal : Tryd.prog.arrayLen 27 = 8 := by simp [Program.arrayLen, Tryd.underlying27]
  have hsl1 : ∀ W, (Instr.sliceAt 27 (.pointer (some ⟨w.heap.size, 0, none⟩)) none (some (.int .i64 n1)) none).run Tryd.prog W = .ok (.slice (some ⟨w.heap.size, 0, none⟩) n1 8) W := fun W => by
    rw [run_sliceAt_array_h W 27 ⟨w.heap.size, 0, none⟩ (by simp [Program.arrayLen, Program.elem, Tryd.underlying27]) .i64 n1 (by omega) (by rw [hal]; omega)]
    go_simp
  have hsl2 : ∀ W, (Instr.sliceAt 27 (.pointer (some ⟨w.heap.size, 0, none⟩)) (some (.int .i64 ((n1 : Int) + n2))) none none).run Tryd.prog W = .ok (.slice (some ⟨w.heap.size, o, none⟩) (8 - (n1 + n2)) (8 - (n1 + n2))) W := fun W => by
    rw [run_sliceAt_array_l W 27 ⟨w.heap.size, 0, none⟩ (by simp [Program.arrayLen, Program.elem, Tryd.underlying27]) .i64 ((n1 : Int) + n2) (by omega) (by rw [hal]; omega)]
    have ez : ((n1 : Int) + n2).toNat = n1 + n2 := by omega
    rw [hal, ez]
    rcases ho with ⟨h7, rfl⟩ | ⟨h8, rfl⟩
    · have e1 : (8 = n1 + n2) = False := eq_false (by omega)
      go_simp
    · rw [h8]
      go_simp
  have hsum : wrap64 ((n1 : Int) + n2) = (n1 : Int) + n2 := by unfold wrap64; omega
  have c8b0 := eq_true hs1
  have c8b1 := decide_eq_true hs1
  have c8b2 : (9223372036854775807 < x.size + 2) = False := eq_false (Nat.not_lt.2 hs1)
  have c9b0 := eq_true hs2
  have c9b1 := decide_eq_true hs2
  have c9b2 : (9223372036854775807 < x.size + 2 + y.size) = False := eq_false (Nat.not_lt.2 hs2)
  go_enter Tryd.func16, Tryd.ntmps16
  go_wp2_with (go_at_call 33; refine (hg _).mono ?_; rintro e w' ⟨rfl, hb⟩)
  have h1 := eE (hE w _) hb
  have h2 := ((Below.refl w.heap.size w).alloc (Nat.le_refl _) _).trans (hb.mono (by simp))
  have hC1 : ∀ W, Below w'.heap.size w' W → Kd.C (Kd.int .u16) W (some ⟨w.heap.size, 0, none⟩) n1 ([a0, a1, a2, a3, a4, a5, a6, a7].take n1) := fun W hW => f0 _ (eE h1 hW) (by simp; omega) (fun j p hj => by
    rw [List.getElem?_take] at hj
    split at hj
    · have hj2 : j < 8 := by have := (List.getElem?_eq_some_iff.1 hj).1; simpa using this
      match j, hj2 with
      | 0, _ | 1, _ | 2, _ | 3, _ | 4, _ | 5, _ | 6, _ | 7, _ => simp at hj ⊢; exact hj
    · cases hj) (by simp; omega)
  have hC2 : ∀ W, Below w'.heap.size w' W → Kd.C (Kd.int .u16) W (some ⟨w.heap.size, o, none⟩) (8 - (n1 + n2)) ([a0, a1, a2, a3, a4, a5, a6, a7].drop (n1 + n2)) := fun W hW => f0 _ (eE h1 hW) (by simp) (fun j p hj => by
    rw [List.getElem?_drop] at hj
    have hj2 : n1 + n2 + j < 8 := by have := (List.getElem?_eq_some_iff.1 hj).1; simpa using this
    obtain rfl : o = n1 + n2 := by omega
    generalize n1 + n2 + j = t at *
    match t, hj2 with
    | 0, _ | 1, _ | 2, _ | 3, _ | 4, _ | 5, _ | 6, _ | 7, _ => simp at hj ⊢; exact hj) (by simp; omega)
  clear h1 hg hb
  refine lH (n := 11) (S := fun w' => True) (ds := []) #[false, false, false, false, false, false, false, false, false, false, false] (by kernel_rfl) rfl rfl trivial (fun hHeld => ?_)
  have hq1 : Below w'.heap.size w' w'.drew := eA (Below.refl _ _)
  have hq3 := h2.trans (hq1.mono h2.size)
  generalize w'.drew = w3 at hq1 hq3 hHeld ⊢
  refine e4 (i := 0) (N := some 14) (v := ?_) (a' := ?_) #[true, false, false, false, false, false, false, false, false, false, false] rfl rfl (by kernel_rfl) (fun _ _ _ h => h) (Or.inl ⟨by rfl, ?_⟩) ?_ ?_
  rotate_left
  · intro w'
    go_simp
    with_reducible rfl
  rotate_left
  · simp only [Act.put, List.setIfInBounds_toArray, List.set_cons_zero, List.set_cons_succ, aC, aI]
    rfl
  refine e4 (i := 1) (N := some 15) (v := ?_) (a' := ?_) #[true, true, false, false, false, false, false, false, false, false, false] rfl rfl (by kernel_rfl) (fun _ _ _ h => h) (Or.inl ⟨by rfl, ?_⟩) ?_ ?_
  rotate_left
  · intro w'
    go_simp
    with_reducible rfl
  rotate_left
  · simp only [Act.put, List.setIfInBounds_toArray, List.set_cons_zero, List.set_cons_succ, aC, aI]
    rfl
  refine e4 (i := 4) (N := some 18) (v := ?_) (a' := ?_) #[true, true, false, false, true, false, false, false, false, false, false] rfl rfl (by kernel_rfl) (fun _ _ _ h => h) (Or.inl ⟨by rfl, ?_⟩) ?_ ?_
  rotate_left
  · intro w'
    go_simp
    with_reducible rfl
  rotate_left
  · simp only [Act.put, List.setIfInBounds_toArray, List.set_cons_zero, List.set_cons_succ, aC, aI]
    rfl
  refine e4 (i := 5) (N := some 19) (v := ?_) (a' := ?_) #[true, true, false, false, true, true, false, false, false, false, false] rfl rfl (by kernel_rfl) (fun _ _ _ h => h) (Or.inl ⟨by rfl, ?_⟩) ?_ ?_
  rotate_left
  · intro w'
    go_simp
    with_reducible rfl
  rotate_left
  · simp only [Act.put, List.setIfInBounds_toArray, List.set_cons_zero, List.set_cons_succ, aC, aI]
    rfl
  refine e4 (i := 6) (N := some 20) (v := ?_) (a' := ?_) #[true, true, false, false, true, true, true, false, false, false, false] rfl rfl (by kernel_rfl) (fun _ _ _ h => h) (Or.inl ⟨by rfl, ?_⟩) ?_ ?_
  rotate_left
  · intro w'
    go_simp
    with_reducible rfl
  rotate_left
  · simp only [Act.put, List.setIfInBounds_toArray, List.set_cons_zero, List.set_cons_succ, aC, aI]
    rfl
  refine e4 (i := 7) (N := some 21) (v := ?_) (a' := ?_) #[true, true, false, false, true, true, true, true, false, false, false] rfl rfl (by kernel_rfl) (fun _ _ _ h => h) (Or.inl ⟨by rfl, ?_⟩) ?_ ?_
  rotate_left
  · intro w'
    go_simp
    with_reducible rfl
  rotate_left
  · simp only [Act.put, List.setIfInBounds_toArray, List.set_cons_zero, List.set_cons_succ, aC, aI]
    rfl
  refine lE (i := 2) (N := some 16) #[true, true, true, false, true, true, true, true, false, false, false] rfl rfl (by kernel_rfl) (by decide) (fun K hK => ?_)
  refine k6 Tryd.func34 (by kernel_rfl) rfl #[.slice (some ⟨w.heap.size, 0, none⟩) n1 8] (by rfl) rfl rfl (by (try simp only [List.map_toArray, List.map_cons, List.map_nil]); first | done | rfl) ?_
  with_reducible refine (hx _ _ _ hq3 (hC1 _ hq1) (by omega)).mono ?_
  rintro e w4 ⟨rfl, hb4⟩
  refine ⟨_, rfl, ?_⟩
  have hq5 := hq1.trans (hb4.mono hq1.size)
  have hq6 := h2.trans (hq5.mono h2.size)
  refine hK.out _ _ trivial (fun hHeld => ?_)
  clear hK K
  refine k7 (a' := ?_) ?_ ?_
  rotate_left
  · show Act.put _ (some 16) _ = _
    simp only [Act.put, List.setIfInBounds_toArray, List.set_cons_zero, List.set_cons_succ, aC, aI]
    rfl
  refine e4 (i := 3) (N := some 17) (v := ?_) (a' := ?_) #[true, true, true, true, true, true, true, true, false, false, false] rfl rfl (by kernel_rfl) (fun _ _ _ h => h) (Or.inl ⟨by rfl, ?_⟩) ?_ ?_
  rotate_left
  · intro w'
    go_simp
    with_reducible rfl
  rotate_left
  · simp only [Act.put, List.setIfInBounds_toArray, List.set_cons_zero, List.set_cons_succ, aC, aI]
    rfl
  refine lE (i := 8) (N := some 22) #[true, true, true, true, true, true, true, true, true, false, false] rfl rfl (by kernel_rfl) (by decide) (fun K hK => ?_)
  refine k6 Tryd.func34 (by kernel_rfl) rfl #[.slice (some ⟨w.heap.size, o, none⟩) (8 - (n1 + n2)) (8 - (n1 + n2))] (by rfl) rfl rfl (by (try simp only [List.map_toArray, List.map_cons, List.map_nil]); first | done | rfl) ?_
  with_reducible refine (hy _ _ _ hq6 (hC2 _ hq5) (Nat.le_refl _)).mono ?_
  rintro e w5 ⟨rfl, hb5⟩
  refine ⟨_, rfl, ?_⟩
  refine hK.out _ _ trivial (fun hHeld => ?_)
  clear hK K
  refine k7 (a' := ?_) ?_ ?_
  rotate_left
  · show Act.put _ (some 22) _ = _
    simp only [Act.put, List.setIfInBounds_toArray, List.set_cons_zero, List.set_cons_succ, aC, aI]
    rfl
  refine e4 (i := 9) (N := some 23) (v := ?_) (a' := ?_) #[true, true, true, true, true, true, true, true, true, true, false] rfl rfl (by kernel_rfl) (fun _ _ _ h => h) (Or.inl ⟨by rfl, ?_⟩) ?_ ?_
  rotate_left
  · intro w'
    go_simp
    with_reducible rfl
  rotate_left
  · simp only [Act.put, List.setIfInBounds_toArray, List.set_cons_zero, List.set_cons_succ, aC, aI]
    rfl
  refine e4 (i := 10) (N := some 2) (v := ?_) (a' := ?_) #[true, true, true, true, true, true, true, true, true, true, true] rfl rfl (by kernel_rfl) (fun _ _ _ h => h) (Or.inl ⟨by rfl, ?_⟩) ?_ ?_
  rotate_left
  · intro w'
    go_simp
    with_reducible rfl
  rotate_left
  · simp only [Act.put, List.setIfInBounds_toArray, List.set_cons_zero, List.set_cons_succ, aC, aI]
    rfl
  refine lS (by kernel_rfl) ?_
  
  try go_wp2
  go_ret
  exact ⟨rfl, hq6.trans (hb5.mono hq6.size)⟩
def bU (k : Nat) (a0 a1 a2 a3 a4 a5 a6 a7 : Int) : Option ByteArray :=
  (cm k a0 a1 a2 a3 a4 a5 a6 a7).bind fun p =>
    if p.2 = 0 then dp k [a0, a1, a2, a3, a4, a5, a6, a7]
    else if 0 ≤ p.1 ∧ 0 ≤ p.2 ∧ p.1 + p.2 ≤ 8 then (dp k ([a0, a1, a2, a3, a4, a5, a6, a7].take p.1.toNat)).bind fun x => (dp k ([a0, a1, a2, a3, a4, a5, a6, a7].drop (p.1.toNat + p.2.toNat))).bind fun y =>
      if x.size + y.size ≤ 9223372036854775000 then some (x ++ (⟨#[58, 58]⟩ : ByteArray) ++ y) else none
    else none
theorem ik : ∀ a0 a1 a2 a3 a4 a5 a6 a7 k, LeO (bU k a0 a1 a2 a3 a4 a5 a6 a7) (bU (k + 1) a0 a1 a2 a3 a4 a5 a6 a7) := by
  intro a0 a1 a2 a3 a4 a5 a6 a7 k
  unfold bU
  exact LeO.bind (gL _ _ _ _ _ _ _ _ _) (fun p => LeO.ite (fA _ _) (LeO.ite (LeO.bind (fA _ _) (fun x => LeO.bind (fA _ _) (fun y => LeO.refl _))) (LeO.refl _)))
theorem ey (k : Nat) (a0 : Int) (a1 : Int) (a2 : Int) (a3 : Int) (a4 : Int) (a5 : Int) (a6 : Int) (a7 : Int) (r : ByteArray) (w : World) (hG : GW w) (h : bU k a0 a1 a2 a3 a4 a5 a6 a7 = some r) :
    Calls Tryd.prog 16 #[.agg #[.int .u16 a0, .int .u16 a1, .int .u16 a2, .int .u16 a3, .int .u16 a4, .int .u16 a5, .int .u16 a6, .int .u16 a7]] w fun e w' => e = .returned (.string r) ∧ Below w.heap.size w w' := by
  unfold bU at h
  obtain ⟨⟨p1, p2⟩, h1, h⟩ := Option.bind_eq_some_iff.1 h
  simp only at h1 h
  by_cases c1 : p2 = 0
  · subst c1
    rw [if_pos rfl] at h
    exact hJ a0 a1 a2 a3 a4 a5 a6 a7 p1 r w (fun w => gq k a0 a1 a2 a3 a4 a5 a6 a7 p1 0 w h1) (fun A c w1 hb hC hc => fc k A c [a0, a1, a2, a3, a4, a5, a6, a7] r w1 hC hc (aJ hG hb) h)
  · rw [if_neg c1] at h
    by_cases c2 : 0 ≤ p1 ∧ 0 ≤ p2 ∧ p1 + p2 ≤ 8
    · rw [if_pos c2] at h
      obtain ⟨x, hx, h⟩ := Option.bind_eq_some_iff.1 h
      obtain ⟨y, hy, h⟩ := Option.bind_eq_some_iff.1 h
      by_cases c3 : x.size + y.size ≤ 9223372036854775000
      · rw [if_pos c3] at h
        obtain rfl := Option.some.inj h
        obtain ⟨n1, rfl⟩ := Int.eq_ofNat_of_zero_le c2.1
        obtain ⟨n2, rfl⟩ := Int.eq_ofNat_of_zero_le c2.2.1
        rw [Int.toNat_natCast] at hx
        rw [Int.toNat_natCast, Int.toNat_natCast] at hy
        have hz : (x ++ (⟨#[58, 58]⟩ : ByteArray)).size = x.size + 2 := by rw [ByteArray.size_append]; rfl
        refine iv a0 a1 a2 a3 a4 a5 a6 a7 n1 n2 (by omega) (by omega) x y (by omega) (by omega) (if n1 + n2 < 8 then n1 + n2 else 0) (by split <;> omega) w (fun w => gq k a0 a1 a2 a3 a4 a5 a6 a7 n1 n2 w h1) (fun A c w1 hb hC hc => ?_) (fun A c w1 hb hC hc => ?_)
        · have hl : ([a0, a1, a2, a3, a4, a5, a6, a7].take n1).length = n1 := by simp; omega
          have := fc k A c ([a0, a1, a2, a3, a4, a5, a6, a7].take n1) x w1 (by rw [hl]; exact hC) (by rw [hl]; exact hc) (aJ hG hb) hx
          rw [hl] at this
          exact this
        · have hl : ([a0, a1, a2, a3, a4, a5, a6, a7].drop (n1 + n2)).length = 8 - (n1 + n2) := by simp
          have := fc k A c ([a0, a1, a2, a3, a4, a5, a6, a7].drop (n1 + n2)) y w1 (by rw [hl]; exact hC) (by rw [hl]; exact hc) (aJ hG hb) hy
          rw [hl] at this
          exact this
      · rw [if_neg c3] at h; cases h
    · rw [if_neg c2] at h; cases h
def az (k : Nat)  : Option (Bool) := (cE k (⟨#[58, 58, 49]⟩ : ByteArray)).bind fun Aa => (if Aa.2.2.2.2.2.2.2.2 = true then (if (Aa.1 == 0 && (Aa.2.1 == 0 && (Aa.2.2.1 == 0 && (Aa.2.2.2.1 == 0 && (Aa.2.2.2.2.1 == 0 && (Aa.2.2.2.2.2.1 == 0 && (Aa.2.2.2.2.2.2.1 == 0 && (Aa.2.2.2.2.2.2.2.1 == 1)))))))) = true then ((bU k 1 0 0 2 0 0 0 3).bind fun Ab => (if Ab.toList = ([49, 58, 48, 58, 48, 58, 50, 58, 58, 51] : List UInt8) then ((di k false (⟨#[50, 53, 54, 46, 48, 46, 48, 46, 49]⟩ : ByteArray)).bind fun Ac => (some (Ac == 2))) else (some false))) else (some false)) else (some false))
theorem fj : ∀ k, LeO (az k ) (az (k + 1) ) := by
  intro  k
  have m0 := @iu; have m1 := @ik; have m2 := @f1
  unfold az
  exact xmo
theorem bY (k : Nat)  (r : Bool) (w : World) (hG : GW w) (h : az k  = some r) :
    Calls Tryd.prog 7 #[] w fun e w' => e = .returned (.bool r) ∧ Below w.heap.size w w' := by
 have hu27 := Tryd.underlying27
 have HB := Zz.mk (Below.refl w.heap.size w)
 have H : ((cE k (⟨#[58, 58, 49]⟩ : ByteArray)).bind fun Aj => (if Aj.2.2.2.2.2.2.2.2 = true then (if (Aj.1 == 0 && (Aj.2.1 == 0 && (Aj.2.2.1 == 0 && (Aj.2.2.2.1 == 0 && (Aj.2.2.2.2.1 == 0 && (Aj.2.2.2.2.2.1 == 0 && (Aj.2.2.2.2.2.2.1 == 0 && (Aj.2.2.2.2.2.2.2.1 == 1)))))))) = true then ((bU k 1 0 0 2 0 0 0 3).bind fun Am => (if Am.toList = ([49, 58, 48, 58, 48, 58, 50, 58, 58, 51] : List UInt8) then ((di k false (⟨#[50, 53, 54, 46, 48, 46, 48, 46, 49]⟩ : ByteArray)).bind fun Ao => (some (Ao == 2))) else (some false))) else (some false)) else (some false))) = some r := h
 clear h
 replace H := Option.bind_eq_some_iff.mp H
 obtain ⟨⟨Ab, Ac, Ad, Ae, Af, Ag, Ah, Ai, Ap⟩, A10, H⟩ := H
 try dsimp only at H
 have A1 := Zz.mk A10
 clear A10
 by_cases c2 : Ap = true
 ·
  subst c2
  rw [if_pos rfl] at H
  by_cases c3 : (Ab == 0 && (Ac == 0 && (Ad == 0 && (Ae == 0 && (Af == 0 && (Ag == 0 && (Ah == 0 && (Ai == 1)))))))) = true
  ·
   rw [if_pos c3] at H
   have Aq : (Ab == 0 && (Ac == 0 && (Ad == 0 && (Ae == 0 && (Af == 0 && (Ag == 0 && (Ah == 0 && (Ai == 1)))))))) = true := c3
   (try (have Ar : decide (Ab = 0 && (Ac == 0 && (Ad == 0 && (Ae == 0 && (Af == 0 && (Ag == 0 && (Ah == 0 && (Ai == 1)))))))) = true := by simpa using c3))
   (try (have As : (Ab == 0 && (Ac == 0 && (Ad == 0 && (Ae == 0 && (Af == 0 && (Ag == 0 && (Ah == 0 && (Ai == 1)))))))) = true := by simpa using c3))
   clear c3
   replace H := Option.bind_eq_some_iff.mp H
   obtain ⟨Am, A40, H⟩ := H
   try dsimp only at H
   have A4 := Zz.mk A40
   clear A40
   by_cases c5 : Am.toList = ([49, 58, 48, 58, 48, 58, 50, 58, 58, 51] : List UInt8)
   ·
    rw [if_pos c5] at H
    have At : (Am.toList == ([49, 58, 48, 58, 48, 58, 50, 58, 58, 51] : List UInt8)) = true := beq_iff_eq.mpr c5
    have Au : (Am.toList != ([49, 58, 48, 58, 48, 58, 50, 58, 58, 51] : List UInt8)) = false := bne_eq_false_iff_eq.mpr c5
    clear c5
    replace H := Option.bind_eq_some_iff.mp H
    obtain ⟨Ao, A60, H⟩ := H
    try dsimp only at H
    have A6 := Zz.mk A60
    clear A60
    obtain rfl := Option.some.inj H
    go_enter Tryd.func7, Tryd.ntmps7
    go_wp2_with (first | ((with_reducible refine ae (f := 9) rfl ?_); refine xgl 4 Tryd.func9 #[.string (⟨#[58, 58, 49]⟩ : ByteArray)] ?_; (with_reducible refine (cr k (⟨#[58, 58, 49]⟩ : ByteArray) Ab Ac Ad Ae Af Ag Ah Ai true _ ?side1 A1.out).mono ?_); (case side1 => first | (with_reducible exact hG) | exact aJ hG xbl); rintro e w7 ⟨rfl, hb⟩; refine ⟨_, rfl, ?_⟩; replace HB := xst hb; (try clear hb)) | ((with_reducible refine ay (N := 1) rfl ?_); refine xev 1 #[.int .u16 0, .int .u16 0, .int .u16 0, .int .u16 0, .int .u16 0, .int .u16 0, .int .u16 0, .int .u16 0] 27 ?_; intro Al hg w8 hbox hb; have Aa := Zz.mk (hbox); have Ak := xsz hg; have An := Ak; replace HB := xst hb; clear hb hbox hg; obtain ⟨hcz9_0, hcz9_1, hcz9_2, hcz9_3, hcz9_4, hcz9_5, hcz9_6, hcz9_7⟩ := xc8 Aa; have hfz9_0 := xf Aa 0; have hfz9_1 := xf Aa 1; have hfz9_2 := xf Aa 2; have hfz9_3 := xf Aa 3; have hfz9_4 := xf Aa 4; have hfz9_5 := xf Aa 5; have hfz9_6 := xf Aa 6; have hfz9_7 := xf Aa 7) | (go_at_call 16; (with_reducible refine (ey k 1 0 0 2 0 0 0 3 Am _ ?side1 A4.out).mono ?_); (case side1 => first | (with_reducible exact hG) | exact aJ hG xbl); rintro e w10 ⟨rfl, hb⟩; replace Aa := xbb (g := Al) (o := .cells #[.int .u16 Ab, .int .u16 Ac, .int .u16 Ad, .int .u16 Ae, .int .u16 Af, .int .u16 Ag, .int .u16 Ah, .int .u16 Ai] 27 (0, 0)) hb; replace HB := xst hb; (try clear hb)) | (go_at_call 14; (with_reducible refine (ij k false (⟨#[50, 53, 54, 46, 48, 46, 48, 46, 49]⟩ : ByteArray) Ao _ ?side1 A6.out).mono ?_); (case side1 => first | (with_reducible exact hG) | exact aJ hG xbl); rintro e w11 ⟨rfl, hb⟩; replace Aa := xbb (g := Al) (o := .cells #[.int .u16 Ab, .int .u16 Ac, .int .u16 Ad, .int .u16 Ae, .int .u16 Af, .int .u16 Ag, .int .u16 Ah, .int .u16 Ai] 27 (0, 0)) hb; replace HB := xst hb; (try clear hb)))
    go_ret
    exact ⟨xre, xbl⟩
   ·
    rw [if_neg c5] at H
    have At : (Am.toList == ([49, 58, 48, 58, 48, 58, 50, 58, 58, 51] : List UInt8)) = false := beq_eq_false_iff_ne.mpr c5
    have Au : (Am.toList != ([49, 58, 48, 58, 48, 58, 50, 58, 58, 51] : List UInt8)) = true := bne_iff_ne.mpr c5
    obtain rfl := Option.some.inj H
    go_enter Tryd.func7, Tryd.ntmps7
    go_wp2_with (first | ((with_reducible refine ae (f := 9) rfl ?_); refine xgl 4 Tryd.func9 #[.string (⟨#[58, 58, 49]⟩ : ByteArray)] ?_; (with_reducible refine (cr k (⟨#[58, 58, 49]⟩ : ByteArray) Ab Ac Ad Ae Af Ag Ah Ai true _ ?side1 A1.out).mono ?_); (case side1 => first | (with_reducible exact hG) | exact aJ hG xbl); rintro e w12 ⟨rfl, hb⟩; refine ⟨_, rfl, ?_⟩; replace HB := xst hb; (try clear hb)) | ((with_reducible refine ay (N := 1) rfl ?_); refine xev 1 #[.int .u16 0, .int .u16 0, .int .u16 0, .int .u16 0, .int .u16 0, .int .u16 0, .int .u16 0, .int .u16 0] 27 ?_; intro Al hg w13 hbox hb; have Aa := Zz.mk (hbox); have Ak := xsz hg; have An := Ak; replace HB := xst hb; clear hb hbox hg; obtain ⟨hcz14_0, hcz14_1, hcz14_2, hcz14_3, hcz14_4, hcz14_5, hcz14_6, hcz14_7⟩ := xc8 Aa; have hfz14_0 := xf Aa 0; have hfz14_1 := xf Aa 1; have hfz14_2 := xf Aa 2; have hfz14_3 := xf Aa 3; have hfz14_4 := xf Aa 4; have hfz14_5 := xf Aa 5; have hfz14_6 := xf Aa 6; have hfz14_7 := xf Aa 7) | (go_at_call 16; (with_reducible refine (ey k 1 0 0 2 0 0 0 3 Am _ ?side1 A4.out).mono ?_); (case side1 => first | (with_reducible exact hG) | exact aJ hG xbl); rintro e w15 ⟨rfl, hb⟩; replace Aa := xbb (g := Al) (o := .cells #[.int .u16 Ab, .int .u16 Ac, .int .u16 Ad, .int .u16 Ae, .int .u16 Af, .int .u16 Ag, .int .u16 Ah, .int .u16 Ai] 27 (0, 0)) hb; replace HB := xst hb; (try clear hb)))
    go_ret
    exact ⟨xre, xbl⟩
  ·
   rw [if_neg c3] at H
   have Aq : (Ab == 0 && (Ac == 0 && (Ad == 0 && (Ae == 0 && (Af == 0 && (Ag == 0 && (Ah == 0 && (Ai == 1)))))))) = false := by simpa using c3
   (try (have Ar : decide (Ab = 0 && (Ac == 0 && (Ad == 0 && (Ae == 0 && (Af == 0 && (Ag == 0 && (Ah == 0 && (Ai == 1)))))))) = false := by simpa using c3))
   (try (have As : (Ab == 0 && (Ac == 0 && (Ad == 0 && (Ae == 0 && (Af == 0 && (Ag == 0 && (Ah == 0 && (Ai == 1)))))))) = false := by simpa using c3))
   (try (have Av : ¬ (Ab = 0 && (Ac == 0 && (Ad == 0 && (Ae == 0 && (Af == 0 && (Ag == 0 && (Ah == 0 && (Ai == 1)))))))) := by simpa using c3))
   clear c3
   obtain rfl := Option.some.inj H
   go_enter Tryd.func7, Tryd.ntmps7
   go_wp2_with (first | ((with_reducible refine ae (f := 9) rfl ?_); refine xgl 4 Tryd.func9 #[.string (⟨#[58, 58, 49]⟩ : ByteArray)] ?_; (with_reducible refine (cr k (⟨#[58, 58, 49]⟩ : ByteArray) Ab Ac Ad Ae Af Ag Ah Ai true _ ?side1 A1.out).mono ?_); (case side1 => first | (with_reducible exact hG) | exact aJ hG xbl); rintro e w16 ⟨rfl, hb⟩; refine ⟨_, rfl, ?_⟩; replace HB := xst hb; (try clear hb)) | ((with_reducible refine ay (N := 1) rfl ?_); refine xev 1 #[.int .u16 0, .int .u16 0, .int .u16 0, .int .u16 0, .int .u16 0, .int .u16 0, .int .u16 0, .int .u16 0] 27 ?_; intro Al hg w17 hbox hb; have Aa := Zz.mk (hbox); have Ak := xsz hg; have An := Ak; replace HB := xst hb; clear hb hbox hg; obtain ⟨hcz18_0, hcz18_1, hcz18_2, hcz18_3, hcz18_4, hcz18_5, hcz18_6, hcz18_7⟩ := xc8 Aa; have hfz18_0 := xf Aa 0; have hfz18_1 := xf Aa 1; have hfz18_2 := xf Aa 2; have hfz18_3 := xf Aa 3; have hfz18_4 := xf Aa 4; have hfz18_5 := xf Aa 5; have hfz18_6 := xf Aa 6; have hfz18_7 := xf Aa 7))
   go_ret
   exact ⟨xre, xbl⟩
 ·
  replace c2 := Bool.eq_false_iff.mpr c2
  subst c2
  rw [if_neg (show ¬ (false = true) by decide)] at H
  obtain rfl := Option.some.inj H
  go_enter Tryd.func7, Tryd.ntmps7
  go_wp2_with (first | ((with_reducible refine ae (f := 9) rfl ?_); refine xgl 4 Tryd.func9 #[.string (⟨#[58, 58, 49]⟩ : ByteArray)] ?_; (with_reducible refine (cr k (⟨#[58, 58, 49]⟩ : ByteArray) Ab Ac Ad Ae Af Ag Ah Ai false _ ?side1 A1.out).mono ?_); (case side1 => first | (with_reducible exact hG) | exact aJ hG xbl); rintro e w19 ⟨rfl, hb⟩; refine ⟨_, rfl, ?_⟩; replace HB := xst hb; (try clear hb)) | ((with_reducible refine ay (N := 1) rfl ?_); refine xev 1 #[.int .u16 0, .int .u16 0, .int .u16 0, .int .u16 0, .int .u16 0, .int .u16 0, .int .u16 0, .int .u16 0] 27 ?_; intro Al hg w20 hbox hb; have Aa := Zz.mk (hbox); have Ak := xsz hg; have An := Ak; replace HB := xst hb; clear hb hbox hg; obtain ⟨hcz21_0, hcz21_1, hcz21_2, hcz21_3, hcz21_4, hcz21_5, hcz21_6, hcz21_7⟩ := xc8 Aa; have hfz21_0 := xf Aa 0; have hfz21_1 := xf Aa 1; have hfz21_2 := xf Aa 2; have hfz21_3 := xf Aa 3; have hfz21_4 := xf Aa 4; have hfz21_5 := xf Aa 5; have hfz21_6 := xf Aa 6; have hfz21_7 := xf Aa 7))
  go_ret
  exact ⟨xre, xbl⟩
def ed : Nat → Int → Option (ByteArray)
  | 0, _ => none
  | k + 1, a0 => if a0 < 10 then (if 0 ≤ a0 then (if a0 ≤ (wrap64 (a0 + 1)) then (if (wrap64 (a0 + 1)) ≤ 10 then (some ((⟨#[48, 49, 50, 51, 52, 53, 54, 55, 56, 57]⟩ : ByteArray).extract (a0 : Int).toNat ((wrap64 (a0 + 1)) : Int).toNat)) else (none)) else (none)) else (none)) else ((ed k (wrap64 (Int.tdiv a0 10))).bind fun t213 => (if 0 ≤ (Int.tmod a0 10) then (if (Int.tmod a0 10) ≤ (wrap64 ((Int.tmod a0 10) + 1)) then (if (wrap64 ((Int.tmod a0 10) + 1)) ≤ 10 then (if t213.size + ((⟨#[48, 49, 50, 51, 52, 53, 54, 55, 56, 57]⟩ : ByteArray).extract ((Int.tmod a0 10) : Int).toNat ((wrap64 ((Int.tmod a0 10) + 1)) : Int).toNat).size ≤ 9223372036854775807 then (some (t213 ++ ((⟨#[48, 49, 50, 51, 52, 53, 54, 55, 56, 57]⟩ : ByteArray).extract ((Int.tmod a0 10) : Int).toNat ((wrap64 ((Int.tmod a0 10) + 1)) : Int).toNat))) else (none)) else (none)) else (none)) else (none)))
def fD : Bool × List (List Nat × List Nat) := (true, [([], []), ([0], [0]), ([1], [1]), ([], []), ([], []), ([4], [4]), ([], []), ([6], [6]), ([7], [7]), ([3, 5, 8], [3, 5, 8]), ([2, 9], [2, 9]), ([10, 2, 0, 1, 2, 3, 4, 5, 6, 7, 8, 9, 10], [10])])
theorem iz : fE .any (k8 Tryd.f18 4) = fD := by kernel_rfl
def aK : Nat → ByteArray → Bool → Int → Int → Int → Int → Int → Int → Int → Int → Int → Option (Bool)
  | 0, _, _, _, _, _, _, _, _, _, _, _ => none
  | k + 1, x0, x4, x5, Aa, Ab, Ac, Ad, Ae, Af, Ag, Ah => if x5 < (x0.size : Int) then (if 0 ≤ x5 then (if (bt x0 x5) = 46 then ((az k).bind fun Ai => (some Ai)) else (aK k x0 x4 (wrap64 (x5 + 1)) Aa Ab Ac Ad Ae Af Ag Ah)) else (none)) else (if x4 = true then ((bU k Aa Ab Ac Ad Ae Af Ag Ah).bind fun Aj => (if (Aj.size : Int) ≤ (wrap64 ((x0.size : Int) + 1)) then ((az k).bind fun Ak => (some Ak)) else (none))) else ((az k).bind fun Al => (some Al)))
def cL (k : Nat) (a0 : ByteArray) : Option (Bool) := if (a0.size : Int) > 80 then ((az k).bind fun Ab => (some Ab)) else ((cE k a0).bind fun Aa => (aK k a0 Aa.2.2.2.2.2.2.2.2 0 Aa.1 Aa.2.1 Aa.2.2.1 Aa.2.2.2.1 Aa.2.2.2.2.1 Aa.2.2.2.2.2.1 Aa.2.2.2.2.2.2.1 Aa.2.2.2.2.2.2.2.1))
theorem eN (k : Nat) (a0 : ByteArray) (r : Bool) (w : World) (hG : GW w) (h : cL k a0 = some r) :
    Calls Tryd.prog 5 #[.string a0] w fun e w' => e = .returned (.bool r) ∧ Below w.heap.size w w' := by
 have hu27 := Tryd.underlying27
 have HB := Zz.mk (Below.refl w.heap.size w)
 have H : (if (a0.size : Int) > 80 then ((az k).bind fun Am => (some Am)) else ((cE k a0).bind fun Ad => (aK k a0 Ad.2.2.2.2.2.2.2.2 0 Ad.1 Ad.2.1 Ad.2.2.1 Ad.2.2.2.1 Ad.2.2.2.2.1 Ad.2.2.2.2.2.1 Ad.2.2.2.2.2.2.1 Ad.2.2.2.2.2.2.2.1))) = some r := h
 clear h
 by_cases c2 : (a0.size : Int) > 80
 ·
  rw [if_pos c2] at H
  have Ap := decide_eq_true c2
  have Aq : decide (80 < a0.size) = true := decide_eq_true (by omega)
  clear c2
  replace H := Option.bind_eq_some_iff.mp H
  obtain ⟨Am, A30, H⟩ := H
  try dsimp only at H
  have A3 := Zz.mk A30
  clear A30
  obtain rfl := Option.some.inj H
  go_enter Tryd.func5, Tryd.ntmps5
  go_wp2_with (first | ((with_reducible refine ae (f := 7) rfl ?_); refine xgl 9 Tryd.func7 #[] ?_; (with_reducible refine (bY k  Am _ ?side1 A3.out).mono ?_); (case side1 => first | (with_reducible exact hG) | exact aJ hG xbl); rintro e w4 ⟨rfl, hb⟩; refine ⟨_, rfl, ?_⟩; replace HB := xst hb; (try clear hb)))
  go_ret
  exact ⟨xre, xbl⟩
 ·
  rw [if_neg c2] at H
  have Ap := decide_eq_false c2
  have Aq : decide (80 < a0.size) = false := decide_eq_false (by omega)
  clear c2
  replace H := Option.bind_eq_some_iff.mp H
  obtain ⟨⟨Ac, Ae, Af, Ag, Ah, Ai, Aj, Ak, An⟩, A50, H⟩ := H
  try dsimp only at H
  have A5 := Zz.mk A50
  clear A50
  have H' := Zz.mk H
  clear H
  go_enter Tryd.func5, Tryd.ntmps5
  go_wp2_with (first | ((with_reducible refine ae (f := 9) rfl ?_); refine xgl 12 Tryd.func9 #[.string a0] ?_; (with_reducible refine (cr k a0 Ac Ae Af Ag Ah Ai Aj Ak An _ ?side1 A5.out).mono ?_); (case side1 => first | (with_reducible exact hG) | exact aJ hG xbl); rintro e w6 ⟨rfl, hb⟩; refine ⟨_, rfl, ?_⟩; replace HB := xst hb; (try clear hb)) | ((with_reducible refine ay (N := 3) rfl ?_); (try (refine dP (by rfl) ?_; dsimp only)); refine xev 3 #[.int .u16 0, .int .u16 0, .int .u16 0, .int .u16 0, .int .u16 0, .int .u16 0, .int .u16 0, .int .u16 0] 27 ?_; intro Al hg w7 hbox hb; have Aa := Zz.mk (hbox); have Ar := xsz hg; have Az := Ar; replace HB := xst hb; clear hb hbox hg; obtain ⟨hcz8_0, hcz8_1, hcz8_2, hcz8_3, hcz8_4, hcz8_5, hcz8_6, hcz8_7⟩ := xc8 Aa; have hfz8_0 := xf Aa 0; have hfz8_1 := xf Aa 1; have hfz8_2 := xf Aa 2; have hfz8_3 := xf Aa 3; have hfz8_4 := xf Aa 4; have hfz8_5 := xf Aa 5; have hfz8_6 := xf Aa 6; have hfz8_7 := xf Aa 7))
  go_loopg [5] k (fun kq v5 w' => ∃ (Ab : Int), v5 = .int .i64 Ab ∧ Zz (aK kq a0 An Ab Ac Ae Af Ag Ah Ai Aj Ak = some r) ∧ Zz (kq ≤ k) ∧ Zz (w'.heap[Al]? = some (.cells #[.int .u16 Ac, .int .u16 Ae, .int .u16 Af, .int .u16 Ag, .int .u16 Ah, .int .u16 Ai, .int .u16 Aj, .int .u16 Ak] 27 (0, 0))) ∧ Zz (Below w.heap.size w w'))
  case atStart => exact ⟨(0), xrr, H', ⟨Nat.le_refl _⟩, ⟨by (with_reducible repeat (first | refine ai ?_ _ | refine aj ?_ | refine ah ?_ _)); refine ag (cs := #[.int .u16 Ac, .int .u16 Ae, .int .u16 Af, .int .u16 Ag, .int .u16 Ah, .int .u16 Ai, .int .u16 Aj, .int .u16 0]) ?_ 7 _ rfl; (with_reducible repeat (first | refine ai ?_ _ | refine aj ?_ | refine ah ?_ _)); refine ag (cs := #[.int .u16 Ac, .int .u16 Ae, .int .u16 Af, .int .u16 Ag, .int .u16 Ah, .int .u16 Ai, .int .u16 0, .int .u16 0]) ?_ 6 _ rfl; (with_reducible repeat (first | refine ai ?_ _ | refine aj ?_ | refine ah ?_ _)); refine ag (cs := #[.int .u16 Ac, .int .u16 Ae, .int .u16 Af, .int .u16 Ag, .int .u16 Ah, .int .u16 0, .int .u16 0, .int .u16 0]) ?_ 5 _ rfl; (with_reducible repeat (first | refine ai ?_ _ | refine aj ?_ | refine ah ?_ _)); refine ag (cs := #[.int .u16 Ac, .int .u16 Ae, .int .u16 Af, .int .u16 Ag, .int .u16 0, .int .u16 0, .int .u16 0, .int .u16 0]) ?_ 4 _ rfl; (with_reducible repeat (first | refine ai ?_ _ | refine aj ?_ | refine ah ?_ _)); refine ag (cs := #[.int .u16 Ac, .int .u16 Ae, .int .u16 Af, .int .u16 0, .int .u16 0, .int .u16 0, .int .u16 0, .int .u16 0]) ?_ 3 _ rfl; (with_reducible repeat (first | refine ai ?_ _ | refine aj ?_ | refine ah ?_ _)); refine ag (cs := #[.int .u16 Ac, .int .u16 Ae, .int .u16 0, .int .u16 0, .int .u16 0, .int .u16 0, .int .u16 0, .int .u16 0]) ?_ 2 _ rfl; (with_reducible repeat (first | refine ai ?_ _ | refine aj ?_ | refine ah ?_ _)); refine ag (cs := #[.int .u16 Ac, .int .u16 0, .int .u16 0, .int .u16 0, .int .u16 0, .int .u16 0, .int .u16 0, .int .u16 0]) ?_ 1 _ rfl; (with_reducible repeat (first | refine ai ?_ _ | refine aj ?_ | refine ah ?_ _)); refine ag (cs := #[.int .u16 0, .int .u16 0, .int .u16 0, .int .u16 0, .int .u16 0, .int .u16 0, .int .u16 0, .int .u16 0]) ?_ 0 _ rfl; (with_reducible repeat (first | refine ai ?_ _ | refine aj ?_ | refine ah ?_ _)); exact Aa.out⟩, ⟨xbl⟩⟩
  case round =>
   clear H'
   clear Ap Aq
   obtain ⟨Ab, rfl, HA, HK1, Aa, HB⟩ := hrel
   cases gk with
   | zero => exact absurd HA.out (by simp [aK])
   | succ k1 =>
    have H := HA.out
    clear HA
    simp only [aK] at H
    by_cases c9 : Ab < (a0.size : Int)
    ·
     rw [if_pos c9] at H
     have Av := decide_eq_true c9
     clear c9
     by_cases c10 : 0 ≤ Ab
     ·
      rw [if_pos c10] at H
      have AA := decide_eq_true c10
      clear c10
      by_cases c12 : (bt a0 Ab) = 46
      ·
       rw [if_pos c12] at H
       have As : ((bt a0 Ab) == 46) = true := beq_iff_eq.mpr c12
       have At : ((bt a0 Ab) != 46) = false := bne_eq_false_iff_eq.mpr c12
       clear c12
       replace H := Option.bind_eq_some_iff.mp H
       obtain ⟨Aw, A130, H⟩ := H
       try dsimp only at H
       have A13 := Zz.mk A130
       clear A130
       obtain rfl := Option.some.inj H
       have p11 : 0 ≤ (Ab : Int) := xod
       have q11 : Ab < (a0.size : Int) := xod
       have hx11 := ax a0 Ab
       replace p11 := eq_true p11
       replace q11 := eq_true q11
       try (have Ao := q11; simp only [ByteArray.size_extract, Nat.min_self] at Ao)
       go_wp2_with (first | ((with_reducible refine ae (f := 7) rfl ?_); refine xgl 25 Tryd.func7 #[] ?_; (with_reducible refine (bY k1  Aw _ ?side1 A13.out).mono ?_); (case side1 => first | (with_reducible exact hG) | exact aJ hG xbl); rintro e w14 ⟨rfl, hb⟩; refine ⟨_, rfl, ?_⟩; replace Aa := xbb (g := Al) (o := .cells #[.int .u16 Ac, .int .u16 Ae, .int .u16 Af, .int .u16 Ag, .int .u16 Ah, .int .u16 Ai, .int .u16 Aj, .int .u16 Ak] 27 (0, 0)) hb; replace HB := xst hb; (try clear hb)))
       go_ret
       exact ⟨xre, xbl⟩
      ·
       rw [if_neg c12] at H
       have As : ((bt a0 Ab) == 46) = false := beq_eq_false_iff_ne.mpr c12
       have At : ((bt a0 Ab) != 46) = true := bne_iff_ne.mpr c12
       have H' := Zz.mk H
       clear H
       have p11 : 0 ≤ (Ab : Int) := xod
       have q11 : Ab < (a0.size : Int) := xod
       have hx11 := ax a0 Ab
       replace p11 := eq_true p11
       replace q11 := eq_true q11
       try (have Ao := q11; simp only [ByteArray.size_extract, Nat.min_self] at Ao)
       go_wp2
       go_roundg k1
       case measure => have := HK1.out; omega
       case rel => exact ⟨(wrap64 (Ab + 1)), xrr, H', ⟨by have := HK1.out; omega⟩, ⟨xbk⟩, ⟨xbl⟩⟩
     ·
      rw [if_neg c10] at H
      exact absurd H (by simp)
    ·
     rw [if_neg c9] at H
     have Av := decide_eq_false c9
     clear c9
     by_cases c15 : An = true
     ·
      subst c15
      rw [if_pos rfl] at H
      replace H := Option.bind_eq_some_iff.mp H
      obtain ⟨Au, A160, H⟩ := H
      try dsimp only at H
      have A16 := Zz.mk A160
      clear A160
      by_cases c17 : (Au.size : Int) ≤ (wrap64 ((a0.size : Int) + 1))
      ·
       rw [if_pos c17] at H
       have AB := decide_eq_true c17
       clear c17
       replace H := Option.bind_eq_some_iff.mp H
       obtain ⟨Ax, A180, H⟩ := H
       try dsimp only at H
       have A18 := Zz.mk A180
       clear A180
       obtain rfl := Option.some.inj H
       obtain ⟨hcz19_0, hcz19_1, hcz19_2, hcz19_3, hcz19_4, hcz19_5, hcz19_6, hcz19_7⟩ := xc8 Aa
       have hfz19_0 := xf Aa 0
       have hfz19_1 := xf Aa 1
       have hfz19_2 := xf Aa 2
       have hfz19_3 := xf Aa 3
       have hfz19_4 := xf Aa 4
       have hfz19_5 := xf Aa 5
       have hfz19_6 := xf Aa 6
       have hfz19_7 := xf Aa 7
       go_wp2_with (first | (go_at_call 16; (with_reducible refine (ey k1 Ac Ae Af Ag Ah Ai Aj Ak Au _ ?side1 A16.out).mono ?_); (case side1 => first | (with_reducible exact hG) | exact aJ hG xbl); rintro e w20 ⟨rfl, hb⟩; replace Aa := xbb (g := Al) (o := .cells #[.int .u16 Ac, .int .u16 Ae, .int .u16 Af, .int .u16 Ag, .int .u16 Ah, .int .u16 Ai, .int .u16 Aj, .int .u16 Ak] 27 (0, 0)) hb; replace HB := xst hb; (try clear hb)) | (go_at_call 7; (with_reducible refine (bY k1  Ax _ ?side1 A18.out).mono ?_); (case side1 => first | (with_reducible exact hG) | exact aJ hG xbl); rintro e w21 ⟨rfl, hb⟩; replace Aa := xbb (g := Al) (o := .cells #[.int .u16 Ac, .int .u16 Ae, .int .u16 Af, .int .u16 Ag, .int .u16 Ah, .int .u16 Ai, .int .u16 Aj, .int .u16 Ak] 27 (0, 0)) hb; replace HB := xst hb; (try clear hb)))
       go_ret
       exact ⟨xre, xbl⟩
      ·
       rw [if_neg c17] at H
       exact absurd H (by simp)
     ·
      replace c15 := Bool.eq_false_iff.mpr c15
      subst c15
      rw [if_neg (show ¬ (false = true) by decide)] at H
      replace H := Option.bind_eq_some_iff.mp H
      obtain ⟨Ay, A220, H⟩ := H
      try dsimp only at H
      have A22 := Zz.mk A220
      clear A220
      obtain rfl := Option.some.inj H
      go_wp2_with (first | (go_at_call 7; (with_reducible refine (bY k1  Ay _ ?side1 A22.out).mono ?_); (case side1 => first | (with_reducible exact hG) | exact aJ hG xbl); rintro e w23 ⟨rfl, hb⟩; replace Aa := xbb (g := Al) (o := .cells #[.int .u16 Ac, .int .u16 Ae, .int .u16 Af, .int .u16 Ag, .int .u16 Ah, .int .u16 Ai, .int .u16 Aj, .int .u16 Ak] 27 (0, 0)) hb; replace HB := xst hb; (try clear hb)))
      go_ret
      exact ⟨xre, xbl⟩
def e0 : Prop := ∀ (a0 : ByteArray), a0.size ≤ 140737488351232 → ∃ k, cL k a0 = some true
def monikerref19_hex.T4 : Bool × List (List Nat × List Nat) := (true, [([], []), ([0], [0]), ([1], [1]), ([], []), ([], []), ([4], [4]), ([], []), ([6], [6]), ([7], [7]), ([3, 5, 8], [3, 5, 8]), ([2, 9], [2, 9]), ([10, 2, 0, 1, 2, 3, 4, 5, 6, 7, 8, 9, 10], [10])])
theorem monikerref19_hex.tab4 : fE .any (k8 Tryd.f53 4) = monikerref19_hex.T4 := by kernel_rfl
end Go.Proofs.YticohlbfolnmpaaDoor.X
namespace Go.Proofs.YticohlbfolnmpaaDoor.M
open Go Go.RowKit Go.Proofs.YticohlbfolnmpaaDoorW.PrintWords
theorem w64 {x : Int} (h1 : -9223372036854775808 ≤ x) (h2 : x ≤ 9223372036854775807) : wrap64 x = x := by unfold wrap64; omega
theorem iM (s : ByteArray) : s.toList = s.data.toList := ByteArray.toList_eq s
theorem ke {a b : ByteArray} (h : ab a = ab b) : a = b := by
  unfold ab at h
  have : a.data.toList = b.data.toList := by
    apply List.map_inj_right (f := fun b : UInt8 => (b.toNat : Int)) _ |>.1 h
    intro x y hxy
    exact UInt8.toNat_inj.1 (by omega)
  cases a; cases b
  simp only [ByteArray.mk.injEq]
  exact Array.toList_inj.1 this
theorem gn (a b : ByteArray) : ab (a ++ b) = ab a ++ ab b := by
  unfold ab
  rw [ByteArray.data_append, Array.toList_append, List.map_append]
theorem cD (a : ByteArray) (i j : Nat) : ab (a.extract i j) = ((ab a).take j).drop i := by
  unfold ab
  rw [ByteArray.data_extract, Array.toList_extract, List.extract_eq_take_drop, List.map_take, List.map_drop, List.drop_take]
theorem iI {s : ByteArray} {x : Int} (h : x ∈ ab s) : 0 ≤ x ∧ x ≤ 255 := by
  unfold ab at h
  obtain ⟨b, _, rfl⟩ := List.mem_map.1 h
  have := b.toNat_lt
  omega
theorem aE (s : ByteArray) : (ab s).length = s.size := hF s
theorem iP (s : ByteArray) (i : Nat) : bt s (i : Int) = (ab s).getD i 0 := by
  rw [← jd]; unfold rd; simp
theorem kc (s : ByteArray) (i : Int) : 0 ≤ bt s i ∧ bt s i ≤ 255 := kC s i
theorem ma {α : Type} {g : Nat → Option α} {r : α} (h : ∀ k, g k = some r) : Ev g r := ⟨0, fun k _ => h k⟩
theorem br {α β : Type} {g : Nat → Option α} {f : Nat → α → Option β} {a : α} {r : β} (h : Ev g a) (k : Ev (fun n => f n a) r) : Ev (fun n => (g n).bind fun t => f n t) r := Ev.bind h k
theorem cT {α β : Type} {o : Option α} {f : Nat → α → Option β} {a : α} {r : β} (h : o = some a) (k : Ev (fun n => f n a) r) : Ev (fun n => o.bind fun t => f n t) r := by
  subst h; exact k
theorem am {α : Type} {c : Prop} [Decidable c] {g f : Nat → Option α} {r : α} (h : c) (k : Ev g r) : Ev (fun n => if c then g n else f n) r := by
  simp only [if_pos h]; exact k
theorem av {α : Type} {c : Prop} [Decidable c] {g f : Nat → Option α} {r : α} (h : ¬ c) (k : Ev f r) : Ev (fun n => if c then g n else f n) r := by
  simp only [if_neg h]; exact k
theorem Ev.ite {α : Type} {c : Prop} [Decidable c] {g f : Nat → Option α} {r : α} (h : c → Ev g r) (k : ¬ c → Ev f r) : Ev (fun n => if c then g n else f n) r := by
  by_cases hc : c
  · exact am hc (h hc)
  · exact av hc (k hc)
theorem Ev.val {α : Type} {a r : α} (h : a = r) : Ev (fun _ => some a) r := by subst h; exact dD _
def idx (c : Int) : List Int → Int
  | [] => -1
  | b :: t => if b = c then 0 else if idx c t = -1 then -1 else idx c t + 1
theorem kl (c : Int) (l : List Int) : -1 ≤ idx c l := by
  induction l with
  | nil => simp [idx]
  | cons b t ih => unfold idx; split <;> (try split) <;> omega
theorem kG {c : Int} {l : List Int} : idx c l = -1 ↔ c ∉ l := by
  induction l with
  | nil => simp [idx]
  | cons b t ih =>
    have := kl c t
    unfold idx
    by_cases hb : b = c
    · simp [hb]
    · simp only [if_neg hb, List.mem_cons, not_or]
      by_cases h1 : idx c t = -1
      · simp [h1, ih.1 h1, Ne.symm hb]
      · rw [if_neg h1]
        constructor
        · intro h; omega
        · intro h; exact absurd (ih.2 h.2) h1
theorem km {c : Int} {l : List Int} (h : 0 ≤ idx c l) : l = l.take (idx c l).toNat ++ c :: l.drop ((idx c l).toNat + 1) ∧ c ∉ l.take (idx c l).toNat := by
  induction l with
  | nil => simp [idx] at h
  | cons b t ih =>
    unfold idx at h ⊢
    by_cases hb : b = c
    · simp [hb]
    · rw [if_neg hb] at h ⊢
      by_cases h1 : idx c t = -1
      · rw [if_pos h1] at h; omega
      · have hg := kl c t
        rw [if_neg h1]
        obtain ⟨e1, e2⟩ := ih (by omega)
        have e : (idx c t + 1).toNat = (idx c t).toNat + 1 := by omega
        rw [e, List.take_succ_cons, List.drop_succ_cons, List.cons_append]
        refine ⟨by rw [← e1], ?_⟩
        rw [List.mem_cons, not_or]
        exact ⟨Ne.symm hb, e2⟩
theorem gR {p : Int → Prop} (h : ∀ n : Fin 256, p ((n.val : Nat) : Int)) {b : Int} (h0 : 0 ≤ b) (h1 : b ≤ 255) : p b := by
  have := h ⟨b.toNat, by omega⟩
  simp only at this
  rwa [Int.toNat_of_nonneg h0] at this
def lP (b : Int) : Bool := decide (65 ≤ b ∧ b ≤ 90 ∨ 97 ≤ b ∧ b ≤ 122)
def dl (b : Int) : Bool := decide (48 ≤ b ∧ b ≤ 57)
def dF (b : Int) : Bool := decide (48 ≤ b ∧ b ≤ 57 ∨ 65 ≤ b ∧ b ≤ 70 ∨ 97 ≤ b ∧ b ≤ 102)
def lX (b : Int) : Bool := decide (b = 45 ∨ b = 46 ∨ b = 95 ∨ b = 126)
def l5 (b : Int) : Bool := decide (b = 33 ∨ b = 36 ∨ 38 ≤ b ∧ b ≤ 44 ∨ b = 59 ∨ b = 61)
def lZ (b : Int) : Bool := decide (b = 58 ∨ b = 47 ∨ b = 63 ∨ b = 35 ∨ b = 91 ∨ b = 93 ∨ b = 64)
def cls (b : Int) : Int := (if lP b then 1 else 0) + (if dl b then 2 else 0) + (if lX b then 4 else 0) + (if l5 b then 8 else 0) + (if lZ b then 16 else 0) + (if dF b then 32 else 0)
def isc (b c : Int) : Bool := Go.bits .and .i64 (cls b) c != 0
theorem ks {b : Int} (h0 : 0 ≤ b) (h1 : b ≤ 255) : isc b 2 = dl b :=
  gR (p := fun b => isc b 2 = dl b) (by decide +kernel) h0 h1
def hv (b : Int) : Int := if 48 ≤ b ∧ b ≤ 57 then b - 48 else if 65 ≤ b ∧ b ≤ 70 then b - 55 else if 97 ≤ b ∧ b ≤ 102 then b - 87 else -1
theorem it (b : Int) : -1 ≤ hv b ∧ hv b ≤ 15 := by unfold hv; (repeat' split) <;> omega
theorem hI (b : Int) : (0 ≤ hv b) ↔ dF b = true := by
  unfold hv dF
  rw [decide_eq_true_iff]
  (repeat' split) <;> omega
theorem lC (b : Int) : (hv b < 0) ↔ dF b = false := by
  have h1 := hI b
  rw [← Bool.not_eq_true, ← h1]
  omega
end Go.Proofs.YticohlbfolnmpaaDoor.M
namespace Go.Proofs.YticohlbfolnmpaaDoor.M
open Go Go.RowKit Go.Proofs.YticohlbfolnmpaaDoorW.PrintWords
def bI (sub : List Int) : List Int → Int
  | [] => if sub = [] then 0 else -1
  | b :: t => if sub.isPrefixOf (b :: t) then 0 else if bI sub t = -1 then -1 else bI sub t + 1
theorem fw (sub : List Int) (b : Int) (t : List Int) : bI sub (b :: t) = if sub.isPrefixOf (b :: t) then 0 else if bI sub t = -1 then -1 else bI sub t + 1 := rfl
theorem lq (sub l : List Int) : -1 ≤ bI sub l := by
  induction l with
  | nil => unfold bI; split <;> omega
  | cons b t ih => rw [fw]; split <;> (try split) <;> omega
theorem jc (a l : List UInt8) : (a.map fun b => (b.toNat : Int)).isPrefixOf (l.map fun b => (b.toNat : Int)) = a.isPrefixOf l := by
  induction a generalizing l with
  | nil => rfl
  | cons x t ih =>
    cases l with
    | nil => rfl
    | cons y r =>
      rw [List.map_cons, List.map_cons, List.isPrefixOf_cons_cons, List.isPrefixOf_cons_cons, ih]
      congr 1
      rw [Bool.eq_iff_iff, beq_iff_eq, beq_iff_eq]
      constructor
      · intro h; exact UInt8.toNat_inj.1 (by omega)
      · intro h; rw [h]
theorem gZ (l sub : List UInt8) : Go.Lib.index l sub = bI (sub.map fun b => (b.toNat : Int)) (l.map fun b => (b.toNat : Int)) := by
  induction l with
  | nil =>
    unfold Go.Lib.index
    rw [List.map_nil]
    unfold bI
    cases sub <;> simp
  | cons b t ih =>
    unfold Go.Lib.index
    have hp := jc sub (b :: t)
    rw [List.map_cons] at hp ⊢
    rw [fw, hp, ih]
    by_cases h : sub.isPrefixOf (b :: t) = true
    · rw [if_pos h, if_pos h]
    · rw [if_neg h, if_neg h]
      simp only [beq_iff_eq]
theorem gK (s sub : ByteArray) : Go.Lib.indexB s sub = bI (ab sub) (ab s) := gZ _ _
theorem iE (c : Int) (l : List Int) : bI [c] l = idx c l := by
  induction l with
  | nil => unfold bI idx; simp
  | cons b t ih =>
    rw [fw, ih]
    have : idx c (b :: t) = if b = c then 0 else if idx c t = -1 then -1 else idx c t + 1 := rfl
    rw [this]
    by_cases h : b = c
    · rw [if_pos h, if_pos (by simp [h])]
    · rw [if_neg h, if_neg (by simp; exact fun x => h x.symm)]
theorem f8 {sub l : List Int} (h : 0 ≤ bI sub l) : (bI sub l).toNat + sub.length ≤ l.length ∧ (l.drop (bI sub l).toNat).take sub.length = sub := by
  induction l with
  | nil =>
    unfold bI at h ⊢
    by_cases hs : sub = []
    · subst hs; simp
    · rw [if_neg hs] at h; omega
  | cons b t ih =>
    rw [fw] at h ⊢
    by_cases hp : sub.isPrefixOf (b :: t) = true
    · rw [if_pos hp]
      have := List.isPrefixOf_iff_prefix.1 hp
      refine ⟨?_, ?_⟩
      · have := this.length_le; simpa using this
      · simpa using (List.prefix_iff_eq_take.1 this).symm
    · rw [if_neg hp] at h ⊢
      by_cases h1 : bI sub t = -1
      · rw [if_pos h1] at h; omega
      · have hg := lq sub t
        rw [if_neg h1]
        have := ih (by omega)
        have e : (bI sub t + 1).toNat = (bI sub t).toNat + 1 := by omega
        rw [e, List.drop_succ_cons, List.length_cons]
        exact ⟨by omega, this.2⟩
def aN (c : Int) : List Int → List (List Int)
  | [] => [[]]
  | b :: t => if b = c then [] :: aN c t else (b :: (aN c t).headD []) :: (aN c t).tail
theorem cQ (c b : Int) (t : List Int) : aN c (b :: t) = if b = c then [] :: aN c t else (b :: (aN c t).headD []) :: (aN c t).tail := rfl
theorem gA (c : Int) (l : List Int) : aN c l ≠ [] := by
  cases l with
  | nil => simp [aN]
  | cons b t => rw [cQ]; split <;> simp
theorem gP (c : Int) (l : List Int) : aN c l = (aN c l).headD [] :: (aN c l).tail := by
  cases h : aN c l with
  | nil => exact absurd h (gA c l)
  | cons a r => rfl
theorem gQ {c : Int} {l : List Int} (h : c ∉ l) : aN c l = [l] := by
  induction l with
  | nil => rfl
  | cons b t ih =>
    rw [List.mem_cons, not_or] at h
    rw [cQ, if_neg (fun x => h.1 x.symm), ih h.2]; rfl
theorem ky {c : Int} {a : List Int} (h : c ∉ a) (r : List Int) : aN c (a ++ c :: r) = a :: aN c r := by
  induction a with
  | nil => rw [List.nil_append, cQ, if_pos rfl]
  | cons b t ih =>
    rw [List.mem_cons, not_or] at h
    rw [List.cons_append, cQ, if_neg (fun x => h.1 x.symm), ih h.2]; rfl
theorem f9 (c : Int) (l : List Int) : (aN c l).length ≤ l.length + 1 := by
  induction l with
  | nil => simp [aN]
  | cons b t ih =>
    rw [cQ]
    split
    · simp; omega
    · simp only [List.length_cons, List.length_tail]; omega
theorem g8 {c : Int} {l : List Int} : ∀ p ∈ aN c l, c ∉ p ∧ (∀ b ∈ p, b ∈ l) ∧ p.length ≤ l.length := by
  induction l with
  | nil => intro p hp; simp [aN] at hp; subst hp; simp
  | cons b t ih =>
    intro p hp
    rw [cQ] at hp
    by_cases h : b = c
    · rw [if_pos h] at hp
      rcases List.mem_cons.1 hp with rfl | hp
      · simp
      · obtain ⟨h1, h2, h3⟩ := ih p hp
        exact ⟨h1, fun x hx => List.mem_cons_of_mem _ (h2 x hx), by rw [List.length_cons]; omega⟩
    · rw [if_neg h] at hp
      rcases List.mem_cons.1 hp with rfl | hp
      · obtain ⟨h1, h2, h3⟩ := ih ((aN c t).headD []) (by rw [gP c t]; simp)
        refine ⟨?_, ?_, by simp only [List.length_cons]; omega⟩
        · rw [List.mem_cons, not_or]; exact ⟨fun x => h x.symm, h1⟩
        · intro x hx
          rcases List.mem_cons.1 hx with rfl | hx
          · exact List.mem_cons_self ..
          · exact List.mem_cons_of_mem _ (h2 x hx)
      · obtain ⟨h1, h2, h3⟩ := ih p (List.mem_of_mem_tail hp)
        exact ⟨h1, fun x hx => List.mem_cons_of_mem _ (h2 x hx), by rw [List.length_cons]; omega⟩
theorem im (c : Int) (sep : ByteArray) (hsep : ab sep = [c]) : ∀ (k : Nat) (s : ByteArray), Go.Lib.countB s sep = k → (Go.Lib.splitB sep 0 k s).map ab = aN c (ab s) := by
  have h1 : sep.size = 1 := by rw [← aE, hsep]; rfl
  intro k
  induction k with
  | zero =>
    intro s hk
    rcases Go.Lib.indexB_cases s sep with hix | ⟨i, hix, hr⟩
    · rw [Go.Lib.splitB_zero, List.map_cons, List.map_nil]
      rw [gK, hsep, iE] at hix
      rw [gQ (kG.1 hix)]
    · have := Go.Lib.countB_hit s sep i (by omega) hix; omega
  | succ k ih =>
    intro s hk
    rcases Go.Lib.indexB_cases s sep with hix | ⟨i, hix, hr⟩
    · rw [Go.Lib.countB_miss s sep hix] at hk; omega
    · have hc := Go.Lib.countB_hit s sep i (by omega) hix
      rw [Go.Lib.splitB_hit sep 0 k s i hix, List.map_cons, ih _ (by omega)]
      rw [gK, hsep, iE] at hix
      obtain ⟨e1, e2⟩ := km (c := c) (l := ab s) (by omega)
      rw [hix, Int.toNat_natCast] at e1 e2
      conv => rhs; rw [e1]
      rw [ky e2, cD, cD, h1, List.drop_zero, Nat.add_zero]
      rw [← aE, List.take_length]
end Go.Proofs.YticohlbfolnmpaaDoor.M
namespace Go.Proofs.YticohlbfolnmpaaDoor.M
open Go Go.RowKit Go.Proofs.YticohlbfolnmpaaDoorW.PrintWords
end Go.Proofs.YticohlbfolnmpaaDoor.M
namespace Go.Proofs.YticohlbfolnmpaaDoor.M
open Go Go.RowKit Go.Proofs.YticohlbfolnmpaaDoorW.PrintWords
def ef (l : List Int) : Int := l.foldl (fun n b => 10 * n + (b - 48)) 0
def d8 (l : List Int) : Int :=
  if l.length = 0 ∨ 3 < l.length ∨ (1 < l.length ∧ l.headD 0 = 48) then -1 else if l.all dl then (if ef l ≤ 255 then ef l else -1) else -1
def go (n : Int) : List Int := if n < 10 then [48 + n] else if n < 100 then [48 + n / 10, 48 + n % 10] else [48 + n / 100, 48 + n / 10 % 10, 48 + n % 10]
theorem eF {b : Int} : dl b = true ↔ 48 ≤ b ∧ b ≤ 57 := by unfold dl; rw [decide_eq_true_iff]
theorem ld {l : List Int} (h : 0 ≤ d8 l) : go (d8 l) = l ∧ d8 l ≤ 255 := by
  unfold d8 at h ⊢
  by_cases h1 : l.length = 0 ∨ 3 < l.length ∨ (1 < l.length ∧ l.headD 0 = 48)
  · rw [if_pos h1] at h; omega
  · rw [if_neg h1] at h ⊢
    by_cases h2 : l.all dl = true
    · rw [if_pos h2] at h ⊢
      by_cases h3 : ef l ≤ 255
      · rw [if_pos h3] at h ⊢
        refine ⟨?_, h3⟩
        match l, h1, h2, h3 with
        | [], h1, _, _ => simp at h1
        | [a], h1, h2, h3 =>
          simp only [List.all_cons, List.all_nil, Bool.and_true, eF] at h2
          simp only [ef, List.foldl_cons, List.foldl_nil] at h3 ⊢
          unfold go
          rw [if_pos (by omega)]
          congr 1; omega
        | [a, b], h1, h2, h3 =>
          simp only [List.all_cons, List.all_nil, Bool.and_true, Bool.and_eq_true, eF] at h2
          simp only [List.length_cons, List.length_nil, List.headD_cons] at h1
          simp only [ef, List.foldl_cons, List.foldl_nil] at h3 ⊢
          unfold go
          rw [if_neg (by omega), if_pos (by omega)]
          congr 1
          · omega
          · congr 1; omega
        | [a, b, c], h1, h2, h3 =>
          simp only [List.all_cons, List.all_nil, Bool.and_true, Bool.and_eq_true, eF] at h2
          simp only [List.length_cons, List.length_nil, List.headD_cons] at h1
          simp only [ef, List.foldl_cons, List.foldl_nil] at h3 ⊢
          unfold go
          rw [if_neg (by omega), if_neg (by omega)]
          congr 1
          · omega
          · congr 1
            · omega
            · congr 1; omega
        | _ :: _ :: _ :: _ :: _, h1, _, _ => simp only [List.length_cons] at h1; omega
      · rw [if_neg h3] at h; omega
    · rw [if_neg h2] at h; omega
theorem gI {l : List Int} (h : l.all dl = true) : 0 ≤ ef l := by
  have key : ∀ (l : List Int) (n : Int), 0 ≤ n → l.all dl = true → 0 ≤ l.foldl (fun n b => 10 * n + (b - 48)) n := by
    intro l
    induction l with
    | nil => intro n hn _; exact hn
    | cons b t ih =>
      intro n hn h
      rw [List.all_cons, Bool.and_eq_true, eF] at h
      exact ih _ (by show 0 ≤ 10 * n + (b - 48); omega) h.2
  exact key l 0 (by omega) h
theorem e7 (l : List Int) : -1 ≤ d8 l ∧ d8 l ≤ 255 := by
  by_cases h : 0 ≤ d8 l
  · have := (ld h).2; omega
  · unfold d8 at h ⊢
    by_cases h1 : l.length = 0 ∨ 3 < l.length ∨ (1 < l.length ∧ l.headD 0 = 48)
    · rw [if_pos h1]; omega
    · rw [if_neg h1] at h ⊢
      by_cases h2 : l.all dl = true
      · rw [if_pos h2] at h ⊢
        by_cases h3 : ef l ≤ 255
        · rw [if_pos h3] at h ⊢
          have key := gI h2
          omega
        · rw [if_neg h3]; omega
      · rw [if_neg h2]; omega
def v4 (l : List Int) : Option (Int × Int × Int × Int) :=
  match aN 46 l with
  | [a, b, c, d] => if 0 ≤ d8 a ∧ 0 ≤ d8 b ∧ 0 ≤ d8 c ∧ 0 ≤ d8 d then some (d8 a, d8 b, d8 c, d8 d) else none
  | _ => none
theorem lJ {l : List Int} (h : 46 ∉ l) : v4 l = none := by
  unfold v4
  rw [gQ h]
theorem iH {l : List Int} {a b c d : Int} (h : v4 l = some (a, b, c, d)) : (0 ≤ a ∧ a ≤ 255) ∧ (0 ≤ b ∧ b ≤ 255) ∧ (0 ≤ c ∧ c ≤ 255) ∧ 0 ≤ d ∧ d ≤ 255 := by
  unfold v4 at h
  split at h
  · rename_i x y z w _
    split at h
    · simp only [Option.some.injEq, Prod.mk.injEq] at h
      obtain ⟨rfl, rfl, rfl, rfl⟩ := h
      have := e7 x
      have := e7 y
      have := e7 z
      have := e7 w
      omega
    · cases h
  · cases h
def dn (n : Int) : List Int → Int
  | [] => n
  | b :: t => dn (16 * n + hv b) t
def ca (l : List Int) : Int := if l.length = 0 ∨ 4 < l.length then -1 else if l.all dF then dn 0 l else -1
theorem fZ : ∀ (l : List Int) (n m : Int), l.all dF = true → 0 ≤ n → n < m → 0 ≤ dn n l ∧ dn n l < m * 16 ^ l.length := by
  intro l
  induction l with
  | nil => intro n m _ h0 h1; simp [dn]; omega
  | cons b t ih =>
    intro n m h h0 h1
    rw [List.all_cons, Bool.and_eq_true, ← hI] at h
    have hr := it b
    have := ih (16 * n + hv b) (16 * m) h.2 (by omega) (by omega)
    refine ⟨this.1, Int.lt_of_lt_of_le this.2 ?_⟩
    rw [List.length_cons, Int.pow_succ]
    have : 16 * m * 16 ^ t.length = m * (16 ^ t.length * 16) := by
      rw [Int.mul_comm 16 m, Int.mul_assoc, Int.mul_comm 16]
    omega
theorem jg (l : List Int) : -1 ≤ ca l ∧ ca l ≤ 65535 := by
  unfold ca
  by_cases h1 : l.length = 0 ∨ 4 < l.length
  · rw [if_pos h1]; omega
  · rw [if_neg h1]
    by_cases h2 : l.all dF = true
    · rw [if_pos h2]
      have := fZ l 0 1 h2 (by omega) (by omega)
      have hp : (16 : Int) ^ l.length ≤ 65536 := by
        have : l.length = 1 ∨ l.length = 2 ∨ l.length = 3 ∨ l.length = 4 := by omega
        rcases this with h | h | h | h <;> rw [h] <;> decide
      omega
    · rw [if_neg h2]; omega
theorem k0 {l : List Int} (h : 0 ≤ ca l) : l.all dF = true ∧ 1 ≤ l.length ∧ l.length ≤ 4 := by
  unfold ca at h
  by_cases h1 : l.length = 0 ∨ 4 < l.length
  · rw [if_pos h1] at h; omega
  · rw [if_neg h1] at h
    by_cases h2 : l.all dF = true
    · exact ⟨h2, by omega, by omega⟩
    · rw [if_neg h2] at h; omega
def cB (fin : Bool) : List (List Int) → Option (List Int)
  | [] => some []
  | p :: r => if r = [] ∧ fin = true ∧ (v4 p).isSome then (v4 p).map fun x => [256 * x.1 + x.2.1, 256 * x.2.2.1 + x.2.2.2]
    else if ca p < 0 then none else (cB fin r).map fun l => ca p :: l
theorem dQ (fin : Bool) (p : List Int) (r : List (List Int)) : cB fin (p :: r) = if r = [] ∧ fin = true ∧ (v4 p).isSome then (v4 p).map fun x => [256 * x.1 + x.2.1, 256 * x.2.2.1 + x.2.2.2]
    else if ca p < 0 then none else (cB fin r).map fun l => ca p :: l := rfl
theorem ii {fin : Bool} {r : List (List Int)} {l : List Int} (h : cB fin r = some l) : l.length ≤ r.length + 1 := by
  induction r generalizing l with
  | nil => simp [cB] at h; subst h; simp
  | cons p r ih =>
    rw [dQ] at h
    split at h
    · obtain ⟨x, _, rfl⟩ := Option.map_eq_some_iff.1 h
      simp
    · split at h
      · cases h
      · obtain ⟨x, hx, rfl⟩ := Option.map_eq_some_iff.1 h
        have := ih hx
        simp only [List.length_cons]; omega
theorem iO {fin : Bool} {r : List (List Int)} {l : List Int} (h : cB fin r = some l) : ∀ w ∈ l, 0 ≤ w ∧ w ≤ 65535 := by
  induction r generalizing l with
  | nil => simp [cB] at h; subst h; simp
  | cons p r ih =>
    rw [dQ] at h
    split at h
    · obtain ⟨x, hx, rfl⟩ := Option.map_eq_some_iff.1 h
      obtain ⟨a, b, c, d⟩ := x
      have := iH hx
      intro w hw
      simp only [List.mem_cons, List.mem_nil_iff, or_false] at hw
      rcases hw with rfl | rfl <;> omega
    · split at h
      · cases h
      · obtain ⟨x, hx, rfl⟩ := Option.map_eq_some_iff.1 h
        intro w hw
        rcases List.mem_cons.1 hw with rfl | hw
        · have := jg p; omega
        · exact ih hx w hw
theorem iN {r : List (List Int)} (h : ∀ p ∈ r, (46 : Int) ∉ p) (fin : Bool) : cB fin r = cB false r := by
  induction r with
  | nil => rfl
  | cons p r ih =>
    have hp := lJ (h p (List.mem_cons_self ..))
    rw [dQ, dQ, ih (fun q hq => h q (List.mem_cons_of_mem _ hq)), hp]
    simp
def eo (fin : Bool) (l : List Int) : Option (List Int) := if l = [] then some [] else cB fin (aN 58 l)
def v6 (l : List Int) : Option (List Int) :=
  if bI [58, 58] l < 0 then (eo true l).bind fun w => if w.length = 8 then some w else none
  else (eo false (l.take (bI [58, 58] l).toNat)).bind fun a => (eo true (l.drop ((bI [58, 58] l).toNat + 2))).bind fun b =>
    if a.length + b.length ≤ 7 then some (a ++ List.replicate (8 - a.length - b.length) 0 ++ b) else none
end Go.Proofs.YticohlbfolnmpaaDoor.M
namespace Go.Proofs.YticohlbfolnmpaaDoor.X
open Go.RowKit Go.Proofs.YticohlbfolnmpaaDoorW.PrintWords Go.Proofs.YticohlbfolnmpaaDoorW.PrintLast Go.Proofs.YticohlbfolnmpaaDoorW.PrintMore
attribute [local go_sem] bA bn cl dg dO cA dh cu cw cY cZ ci cj cv cx
def da : Nat → ByteArray → Int → List ByteArray → Int → Option (List ByteArray)
  | 0, _, _, _, _ => none
  | k + 1, x0, x1, x5, x6 => if x6 < (x0.size : Int) then (if 0 ≤ x6 then (if (bt x0 x6) = x1 then (if x5.length < 8796093022208 then (da k x0 x1 (x5 ++ [(⟨#[]⟩ : ByteArray)]) (wrap64 (x6 + 1))) else (none)) else (if 0 ≤ (wrap64 ((x5.length : Int) - 1)) then (if (wrap64 ((x5.length : Int) - 1)) < (x5.length : Int) then (if x6 ≤ (wrap64 (x6 + 1)) then (if (wrap64 (x6 + 1)) ≤ (x0.size : Int) then (if (bH ByteArray.empty x5 (wrap64 ((x5.length : Int) - 1))).size + (x0.extract (x6 : Int).toNat ((wrap64 (x6 + 1)) : Int).toNat).size ≤ 9223372036854775807 then (da k x0 x1 (x5.set ((wrap64 ((x5.length : Int) - 1)) : Int).toNat ((bH ByteArray.empty x5 (wrap64 ((x5.length : Int) - 1))) ++ (x0.extract (x6 : Int).toNat ((wrap64 (x6 + 1)) : Int).toNat))) (wrap64 (x6 + 1))) else (none)) else (none)) else (none)) else (none)) else (none))) else (none)) else (some x5)
def el (k : Nat) (a0 : ByteArray) (a1 : Int) : Option (List ByteArray) := da k a0 a1 (([(⟨#[]⟩ : ByteArray)] : List ByteArray)) 0
mutual
def ck : Nat → List ByteArray → Int → Int → Int → Int → Int → Option (Int × Int × Int × Int × Bool)
  | 0, _, _, _, _, _, _ => none
  | k + 1, x4, x6, Aa, Ab, Ac, Ad => if x6 < 4 then (dJ k x4 x6 (-1) 0 Aa Ab Ac Ad) else (some (Aa, Ab, Ac, Ad, true))
def dJ : Nat → List ByteArray → Int → Int → Int → Int → Int → Int → Int → Option (Int × Int × Int × Int × Bool)
  | 0, _, _, _, _, _, _, _, _ => none
  | k + 1, x4, x6, x7, x8, Aa, Ab, Ac, Ad => if x8 < 256 then ((ed k x8).bind fun Ae => (if 0 ≤ x6 then (if x6 < (x4.length : Int) then (if Ae.toList = (bH ByteArray.empty x4 x6).toList then (dJ k x4 x6 x8 (wrap64 (x8 + 1)) Aa Ab Ac Ad) else (dJ k x4 x6 x7 (wrap64 (x8 + 1)) Aa Ab Ac Ad)) else (none)) else (none))) else (if x7 < 0 then (some (0, 0, 0, 0, false)) else (if 0 ≤ x6 then (if x6 = 0 then (ck k x4 (wrap64 (x6 + 1)) x7 Ab Ac Ad) else (if x6 = 1 then (ck k x4 (wrap64 (x6 + 1)) Aa x7 Ac Ad) else (if x6 = 2 then (ck k x4 (wrap64 (x6 + 1)) Aa Ab x7 Ad) else (if x6 = 3 then (ck k x4 (wrap64 (x6 + 1)) Aa Ab Ac x7) else (none))))) else (none)))
end
def eT (k : Nat) (a0 : ByteArray) : Option (Int × Int × Int × Int × Bool) := (el k a0 46).bind fun t223 => (if (t223.length : Int) = 4 then (ck k t223 0 0 0 0 0) else (some (0, 0, 0, 0, false)))
def d7 : Nat → Int → Int → Option (Int)
  | 0, _, _ => none
  | k + 1, x0, x3 => if x3 < 16 then (if 0 ≤ x3 then (if x0 = (bt (⟨#[48, 49, 50, 51, 52, 53, 54, 55, 56, 57, 65, 66, 67, 68, 69, 70]⟩ : ByteArray) x3) then (some x3) else (if x0 = (bt (⟨#[48, 49, 50, 51, 52, 53, 54, 55, 56, 57, 97, 98, 99, 100, 101, 102]⟩ : ByteArray) x3) then (some x3) else (d7 k x0 (wrap64 (x3 + 1))))) else (none)) else (some (-1))
def cp (k : Nat) (a0 : Int) : Option (Int) := d7 k a0 0
mutual
def em : Nat → ByteArray → Bool → Option (Int)
  | 0, _, _ => none
  | k + 1, x0, x13 => if x13 = true then (some (-1)) else (en k x0 0 0)
def en : Nat → ByteArray → Int → Int → Option (Int)
  | 0, _, _, _ => none
  | k + 1, x0, x3, x4 => if x4 < (x0.size : Int) then (if 0 ≤ x4 then ((cp k (bt x0 x4)).bind fun t229 => (if t229 < 0 then (some (-1)) else (en k x0 (wrap64 ((wrap64 (16 * x3)) + t229)) (wrap64 (x4 + 1))))) else (none)) else (some x3)
end
def gj (k : Nat) (a0 : ByteArray) : Option (Int) := if (a0.size : Int) < 1 then (em k a0 true) else (em k a0 (decide ((a0.size : Int) > 4)))
mutual
def ev : Nat → List Int → List ByteArray → Int → Option (List Int × Bool)
  | 0, _, _, _ => none
  | k + 1, x4, x5, x6 => if x6 < (x5.length : Int) then (if 0 ≤ x6 then ((eT k (bH ByteArray.empty x5 x6)).bind fun Aa => (if Aa.2.2.2.2 = true then (eu k x4 x5 x6 (x6 == (wrap64 ((x5.length : Int) - 1))) Aa.1 Aa.2.1 Aa.2.2.1 Aa.2.2.2.1) else (eu k x4 x5 x6 false Aa.1 Aa.2.1 Aa.2.2.1 Aa.2.2.2.1))) else (none)) else (some (x4, true))
def eu : Nat → List Int → List ByteArray → Int → Bool → Int → Int → Int → Int → Option (List Int × Bool)
  | 0, _, _, _, _, _, _, _, _ => none
  | k + 1, x4, x5, x6, Ag, Aa, Ab, Ac, Ad => if Ag = true then ((some (([wrap64 ((wrap64 (256 * Aa)) + Ab), wrap64 ((wrap64 (256 * Ac)) + Ad)] : List Int) : List Int)).bind fun Ae => (if x4.length + Ae.length < 17592186044416 then (some ((x4 ++ Ae), true)) else (none))) else (if 0 ≤ x6 then (if x6 < (x5.length : Int) then ((gj k (bH ByteArray.empty x5 x6)).bind fun Af => (if Af < 0 then (some (([] : List Int), false)) else (if x4.length < 17592186044416 then (ev k (x4 ++ [Af]) x5 (wrap64 (x6 + 1))) else (none)))) else (none)) else (none))
end
def dL (k : Nat) (a0 : ByteArray) : Option (List Int × Bool) := (some (([] : List Int) : List Int)).bind fun y230 => (if a0.toList = ([] : List UInt8) then (some (y230, true)) else ((el k a0 58).bind fun t233 => (ev k y230 t233 0)))
def eG : Nat → Int → ByteArray → Int → Option (Bool)
  | 0, _, _, _ => none
  | k + 1, x0, x1, x5 => if x5 < (x1.size : Int) then (if 0 ≤ x5 then (if (bt x1 x5) = x0 then (some true) else (eG k x0 x1 (wrap64 (x5 + 1)))) else (none)) else (some false)
def aw (k : Nat) (a0 : Int) (a1 : ByteArray) : Option (Bool) := eG k a0 a1 0
mutual
def d3 : Nat → Int → Int → Option (Int)
  | 0, _, _ => none
  | k + 1, x0, x3 => (aw k x0 (⟨#[48, 49, 50, 51, 52, 53, 54, 55, 56, 57]⟩ : ByteArray)).bind fun t273 => (if t273 = true then (d4 k x0 (wrap64 (x3 + 2))) else (d4 k x0 x3))
def d4 : Nat → Int → Int → Option (Int)
  | 0, _, _ => none
  | k + 1, x0, x3 => (aw k x0 (⟨#[45, 46, 95, 126]⟩ : ByteArray)).bind fun t274 => (if t274 = true then (d5 k x0 (wrap64 (x3 + 4))) else (d5 k x0 x3))
def d5 : Nat → Int → Int → Option (Int)
  | 0, _, _ => none
  | k + 1, x0, x3 => (aw k x0 (⟨#[33, 36, 38, 39, 40, 41, 42, 43, 44, 59, 61]⟩ : ByteArray)).bind fun t275 => (if t275 = true then (d6 k x0 (wrap64 (x3 + 8))) else (d6 k x0 x3))
def d6 : Nat → Int → Int → Option (Int)
  | 0, _, _ => none
  | k + 1, x0, x3 => (aw k x0 (⟨#[58, 47, 63, 35, 91, 93, 64]⟩ : ByteArray)).bind fun t276 => (if t276 = true then ((aw k x0 (⟨#[48, 49, 50, 51, 52, 53, 54, 55, 56, 57, 65, 66, 67, 68, 69, 70, 97, 98, 99, 100, 101, 102]⟩ : ByteArray)).bind fun t277 => (if t277 = true then (some (wrap64 ((wrap64 (x3 + 16)) + 32))) else (some (wrap64 (x3 + 16))))) else ((aw k x0 (⟨#[48, 49, 50, 51, 52, 53, 54, 55, 56, 57, 65, 66, 67, 68, 69, 70, 97, 98, 99, 100, 101, 102]⟩ : ByteArray)).bind fun t278 => (if t278 = true then (some (wrap64 (x3 + 32))) else (some x3))))
end
def eg (k : Nat) (a0 : Int) : Option (Int) := (aw k a0 (⟨#[65, 66, 67, 68, 69, 70, 71, 72, 73, 74, 75, 76, 77, 78, 79, 80, 81, 82, 83, 84, 85, 86, 87, 88, 89, 90, 97, 98, 99, 100, 101, 102, 103, 104, 105, 106, 107, 108, 109, 110, 111, 112, 113, 114, 115, 116, 117, 118, 119, 120, 121, 122]⟩ : ByteArray)).bind fun t272 => (if t272 = true then (d3 k a0 (0 + 1)) else (d3 k a0 0))
mutual
def cN : Nat → ByteArray → Bool → Option (Bool)
  | 0, _, _ => none
  | k + 1, x0, x17 => if x17 = true then (some false) else (dZ k x0 1)
def dY : Nat → ByteArray → Int → Option (Bool)
  | 0, _, _ => none
  | k + 1, x0, x3 => if x3 = 1 then (cO k x0 x3 true) else (if x3 ≥ (wrap64 ((x0.size : Int) - 1)) then (cO k x0 x3 true) else (if 0 ≤ x3 then (if x3 < (x0.size : Int) then (cO k x0 x3 ((bt x0 x3) != 46)) else (none)) else (none)))
def cO : Nat → ByteArray → Int → Bool → Option (Bool)
  | 0, _, _, _ => none
  | k + 1, x0, x3, x45 => if x45 = true then (some false) else (cP k x0 (wrap64 (x3 + 1)))
def cP : Nat → ByteArray → Int → Option (Bool)
  | 0, _, _ => none
  | k + 1, x0, x4 => if x4 < (x0.size : Int) then (if 0 ≤ x4 then ((eg k (bt x0 x4)).bind fun t280 => (if (Go.bits .and .i64 t280 15) = 0 then (if (bt x0 x4) = 58 then (cP k x0 (wrap64 (x4 + 1))) else (some false)) else (cP k x0 (wrap64 (x4 + 1))))) else (none)) else (some true)
def dZ : Nat → ByteArray → Int → Option (Bool)
  | 0, _, _ => none
  | k + 1, x0, x3 => if x3 < (x0.size : Int) then (if 0 ≤ x3 then ((cp k (bt x0 x3)).bind fun t279 => (if t279 ≥ 0 then (dZ k x0 (wrap64 (x3 + 1))) else (dY k x0 x3))) else (none)) else (dY k x0 x3)
end
def fR (k : Nat) (a0 : ByteArray) : Option (Bool) := if (a0.size : Int) < 4 then (cN k a0 true) else (if 0 < (a0.size : Int) then (if (bt a0 0) = 118 then (cN k a0 false) else (cN k a0 ((bt a0 0) != 86))) else (none))
end Go.Proofs.YticohlbfolnmpaaDoor.X
namespace Go.Proofs.YticohlbfolnmpaaDoor.Y
open Go.RowKit Go.Proofs.YticohlbfolnmpaaDoor.X Go.Proofs.YticohlbfolnmpaaDoor.M Go.Proofs.YticohlbfolnmpaaDoorW.PrintWords Go.Proofs.YticohlbfolnmpaaDoorW.PrintLast Go.Proofs.YticohlbfolnmpaaDoorW.PrintMore
theorem lc {b : Int} (h0 : 0 ≤ b) (h1 : b ≤ 255) : Ev (fun k => b9 k b) (cls b) :=
  iq (fun k => fe b k) (k := 12) (gR (p := fun b => b9 12 b = some (cls b)) (by decide +kernel) h0 h1)
theorem l4 {b : Int} (c : Int) (h0 : 0 ≤ b) (h1 : b ≤ 255) : Ev (fun k => ce k b c) (isc b c) := br (lc h0 h1) (dD _)
theorem lt {b : Int} (h0 : 0 ≤ b) (h1 : b ≤ 255) : Ev (fun k => bR k b) (if hv b < 0 then (0, false) else (hv b, true)) :=
  iq (fun k => cz b k) (k := 14) (gR (p := fun b => bR 14 b = some (if hv b < 0 then (0, false) else (hv b, true))) (by decide +kernel) h0 h1)
theorem gm (s : ByteArray) (n : Nat) (h : n ≤ s.size) : (n = s.size ∧ (ab s).drop n = []) ∨ (n < s.size ∧ (ab s).drop n = bt s (n : Int) :: (ab s).drop (n + 1) ∧ 0 ≤ bt s (n : Int) ∧ bt s (n : Int) ≤ 255) := by
  rcases Nat.lt_or_ge n s.size with h1 | h1
  · right
    have hl : n < (ab s).length := by rw [aE]; exact h1
    refine ⟨h1, ?_, (kc s n).1, (kc s n).2⟩
    rw [List.drop_eq_getElem_cons hl, iP, List.getD_eq_getElem?_getD, List.getElem?_eq_getElem hl]
    rfl
  · left
    exact ⟨by omega, List.drop_of_length_le (by rw [aE]; exact h1)⟩
theorem kB (s : ByteArray) : (s.size = 0 ∧ ab s = []) ∨ (0 < s.size ∧ ab s = bt s 0 :: (ab s).drop 1 ∧ 0 ≤ bt s 0 ∧ bt s 0 ≤ 255) := by
  have := gm s 0 (by omega)
  rw [List.drop_zero] at this
  rcases this with ⟨h, e⟩ | h
  · exact .inl ⟨h.symm, e⟩
  · exact .inr h
end Go.Proofs.YticohlbfolnmpaaDoor.Y
namespace Go.Proofs.YticohlbfolnmpaaDoor.Y
open Go.RowKit Go.Proofs.YticohlbfolnmpaaDoor.X Go.Proofs.YticohlbfolnmpaaDoor.M Go.Proofs.YticohlbfolnmpaaDoorW.PrintWords Go.Proofs.YticohlbfolnmpaaDoorW.PrintLast Go.Proofs.YticohlbfolnmpaaDoorW.PrintMore
theorem iU (s sep : ByteArray) (c : Int) (hsep : ab sep = [c]) (hs : s.size < 4294967281) : ∃ R : List ByteArray, bM s sep = some R ∧ R.map ab = aN c (ab s) := by
  have h1 : sep.size = 1 := by rw [← aE, hsep]; rfl
  refine ⟨_, ?_, im c sep hsep _ s rfl⟩
  unfold bM
  rw [if_pos ⟨hs, by omega⟩]
theorem kU (s sep : ByteArray) (hs : s.size < 4294967281) (h1 : sep.size ≤ 1000) : bl s sep = some (if bI (ab sep) (ab s) < 0 then (s, (⟨#[]⟩ : ByteArray), false)
    else (s.extract 0 (bI (ab sep) (ab s)).toNat, s.extract ((bI (ab sep) (ab s)).toNat + sep.size) s.size, true)) := by
  unfold bl cS cd
  rw [if_pos hs]
  have e : Go.Lib.index s.data.toList sep.data.toList = bI (ab sep) (ab s) := gZ _ _
  rw [e]
  simp only [Option.bind_some]
  by_cases h : bI (ab sep) (ab s) < 0
  · rw [if_neg (by omega), if_pos h]; rfl
  · have hsp := f8 (sub := ab sep) (l := ab s) (by omega)
    rw [aE, aE] at hsp
    rw [if_pos (by omega), if_pos (by omega), if_pos (by omega), w64 (by omega) (by omega), if_pos (by omega), if_pos (by omega), if_neg h]
    simp only [Option.bind_some]
    have : (bI (ab sep) (ab s) + (sep.size : Int)).toNat = (bI (ab sep) (ab s)).toNat + sep.size := by omega
    rw [this]
theorem kQ {R : List ByteArray} {L : List (List Int)} (h : R.map ab = L) (i : Nat) : ab (bH ByteArray.empty R (i : Int)) = L.getD i [] := by
  subst h
  unfold bH
  rw [Int.toNat_natCast, List.getD_eq_getElem?_getD, List.getD_eq_getElem?_getD, List.getElem?_map]
  cases R[i]? with
  | none => rfl
  | some x => rfl
end Go.Proofs.YticohlbfolnmpaaDoor.Y
namespace Go.Proofs.YticohlbfolnmpaaDoor.X
open Go.RowKit Go.Proofs.YticohlbfolnmpaaDoorW.PrintWords Go.Proofs.YticohlbfolnmpaaDoorW.PrintLast Go.Proofs.YticohlbfolnmpaaDoorW.PrintMore
attribute [local go_sem] bA bn cl dg dO cA dh cu cw cY cZ ci cj cv cx
def cI : Nat → ByteArray → Int → Bool → Option (Int)
  | 0, _, _, _ => none
  | k + 1, x0, x1, x27 => if x27 = true then (some (-1)) else (if 0 ≤ (wrap64 (x1 + 1)) then (if (wrap64 (x1 + 1)) < (x0.size : Int) then ((cp k (bt x0 (wrap64 (x1 + 1)))).bind fun t317 => (if 0 ≤ (wrap64 (x1 + 2)) then (if (wrap64 (x1 + 2)) < (x0.size : Int) then ((cp k (bt x0 (wrap64 (x1 + 2)))).bind fun t318 => (if t317 < 0 then (some (-1)) else (if t318 < 0 then (some (-1)) else (some (wrap64 ((wrap64 (16 * t317)) + t318)))))) else (none)) else (none))) else (none)) else (none))
def gF (k : Nat) (a0 : ByteArray) (a1 : Int) : Option (Int) := if a1 < 0 then (cI k a0 a1 true) else (if a1 ≥ (a0.size : Int) then (cI k a0 a1 true) else (if (wrap64 ((a0.size : Int) - a1)) < 3 then (cI k a0 a1 true) else (if 0 ≤ a1 then (if a1 < (a0.size : Int) then (cI k a0 a1 ((bt a0 a1) != 37)) else (none)) else (none))))
def monikerref02_row_nums : List Int := [0, 127, 0, 0, 1, 194, 223, 128, 191, 2, 224, 224, 160, 191, 3, 225, 236, 128, 191, 3, 237, 237, 128, 159, 3, 238, 239, 128, 191, 3, 240, 240, 144, 191, 4, 241, 243, 128, 191, 4, 244, 244, 128, 143, 4]
def cb (i j : Nat) : Int := monikerref02_row_nums.getD (i * 5 + j) 0
def gv (a0 : Int) : Option (Int × Int × Int × Int × Int) := if 0 ≤ a0 ∧ a0 < 9 then some (cb a0.toNat 0, cb a0.toNat 1, cb a0.toNat 2, cb a0.toNat 3, cb a0.toNat 4) else none
mutual
def dr : Nat → ByteArray → Int → Int → Int → Int → Int → Int → Option (Int)
  | 0, _, _, _, _, _, _, _ => none
  | k + 1, x0, x5, Ab, Ac, Ad, Ae, Aa => if x5 < (x0.size : Int) then (eh k x0 x5 (decide (x5 < Aa)) Ab Ac Ad Ae Aa) else (eh k x0 x5 false Ab Ac Ad Ae Aa)
def eh : Nat → ByteArray → Int → Bool → Int → Int → Int → Int → Int → Option (Int)
  | 0, _, _, _, _, _, _, _, _ => none
  | k + 1, x0, x5, Af, Aa, Ab, Ac, Ad, Ae => if Af = true then (if x5 = 0 then (ei k x0 x5 Aa Ab Aa Ab Ac Ad Ae) else (ei k x0 x5 128 191 Aa Ab Ac Ad Ae)) else (some x5)
def ei : Nat → ByteArray → Int → Int → Int → Int → Int → Int → Int → Int → Option (Int)
  | 0, _, _, _, _, _, _, _, _, _ => none
  | k + 1, x0, x5, x6, x7, Ac, Ad, Aa, Ab, Ae => if x5 = 1 then (if 0 ≤ x5 then (if x5 < (x0.size : Int) then (if (wrap64 (bt x0 x5)) < Aa then (some x5) else (if (wrap64 (bt x0 x5)) > Ab then (some x5) else (dr k x0 (wrap64 (x5 + 1)) Ac Ad Aa Ab Ae))) else (none)) else (none)) else (if 0 ≤ x5 then (if x5 < (x0.size : Int) then (if (wrap64 (bt x0 x5)) < x6 then (some x5) else (if (wrap64 (bt x0 x5)) > x7 then (some x5) else (dr k x0 (wrap64 (x5 + 1)) Ac Ad Aa Ab Ae))) else (none)) else (none))
end
def gh (k : Nat) (a0 : ByteArray) (a1_0 : Int) (a1_1 : Int) (a1_2 : Int) (a1_3 : Int) (a1_4 : Int) : Option (Int) := dr k a0 0 a1_0 a1_1 a1_2 a1_3 a1_4
mutual
def d9 : Nat → ByteArray → Int → Option (Int)
  | 0, _, _ => none
  | k + 1, x0, x3 => if (x0.size : Int) = 4 then (if 0 < (x0.size : Int) then (ea k x0 (wrap64 ((wrap64 (bt x0 0)) - 240))) else (none)) else (ea k x0 x3)
def ea : Nat → ByteArray → Int → Option (Int)
  | 0, _, _ => none
  | k + 1, x0, x3 => eb k x0 x3 1
def eb : Nat → ByteArray → Int → Int → Option (Int)
  | 0, _, _, _ => none
  | k + 1, x0, x3, x4 => if x4 < (x0.size : Int) then (if 0 ≤ x4 then (eb k x0 (wrap64 ((wrap64 ((wrap64 (x3 * 64)) + (wrap64 (bt x0 x4)))) - 128)) (wrap64 (x4 + 1))) else (none)) else (some x3)
end
def f3 (k : Nat) (a0 : ByteArray) : Option (Int) := if (a0.size : Int) = 1 then (if 0 < (a0.size : Int) then (some (wrap64 (bt a0 0))) else (none)) else (if 0 < (a0.size : Int) then (if (a0.size : Int) = 3 then (d9 k a0 (wrap64 ((wrap64 (bt a0 0)) - 224))) else (d9 k a0 (wrap64 ((wrap64 (bt a0 0)) - 192)))) else (none))
end Go.Proofs.YticohlbfolnmpaaDoor.X
