/- Texts that the law's proof needs, joined by a program of this session. -/
import Derived.Test.YticohlbfolnmpaaDoorZIpReads1
import Derived.Test.YticohlbfolnmpaaDoorZIpReads3
import Derived.Test.YticohlbfolnmpaaDoorZIpReads4
import Derived.Test.YticohlbfolnmpaaDoorZIpReads5
import Derived.Test.YticohlbfolnmpaaDoorZIpReads6
namespace Go.Proofs.YticohlbfolnmpaaDoor.X
open Go.RowKit Go.Proofs.YticohlbfolnmpaaDoorW.PrintWords Go.Proofs.YticohlbfolnmpaaDoorW.PrintLast Go.Proofs.YticohlbfolnmpaaDoorW.PrintMore
attribute [local go_sem] max2_int min2_int max_two min_two max_three min_three max_four min_four
set_option linter.unusedVariables false
set_option linter.unusedSimpArgs false
attribute [local go_sem high] eqA27
def strings_Join.f (l0 : List ByteArray) (a1 : ByteArray) : Option ByteArray := if l0.length ≤ 140737488355328 ∧ (Go.Lib.join (l0.map (·.data.toList)) a1.data.toList).length ≤ 140737488355328 then some ⟨(Go.Lib.join (l0.map (·.data.toList)) a1.data.toList).toArray⟩ else none
theorem strings_Join.calls (A0 : Option Addr) (c0 : Nat) (l0 : List ByteArray) (a1 : ByteArray) (r : ByteArray) (w : World) (hr0 : Kd.C Kd.string w A0 l0.length l0) (hc0 : l0.length ≤ c0) (h : strings_Join.f l0 a1 = some r) :
    Calls Tryd.prog 36 #[.slice A0 l0.length c0, .string a1] w fun e w' => e = .returned (.string r) ∧ Below w.heap.size w w' := by
  unfold strings_Join.f at h
  by_cases hs : l0.length ≤ 140737488355328 ∧ (Go.Lib.join (l0.map (·.data.toList)) a1.data.toList).length ≤ 140737488355328
  · rw [if_pos hs] at h
    obtain rfl := Option.some.inj h
    cases l0 with
    | nil =>
      refine (Tryd.strings_Join_none A0 c0 a1 w).mono ?_
      rintro e w' ⟨rfl, rfl⟩
      exact ⟨rfl, Below.refl _ _⟩
    | cons x l =>
      obtain ⟨ad, rfl, hc⟩ := hr0.2.2 (by simp)
      have hcell : ∀ (j : Nat) y, (x :: l)[j]? = some y → w.cell? (ad.add j) = some (.string y) := by
        intro j y hj
        obtain ⟨c, hl, hk, hu⟩ := hc j y hj
        have hk : c = [Value.string y] := hk
        subst hk
        have h1 := hu 0 _ rfl
        simpa [Kd.string, Kd.scalar] using h1
      have h0 := hcell 0 x rfl
      have h0 : w.cell? ad = some (.string x) := by simpa [Addr.add] using h0
      obtain ⟨bk, o, sp⟩ := ad
      have hsp : sp = none := by
        cases sp with
        | none => rfl
        | some z => unfold World.cell? at h0; split at h0 <;> simp at h0
      subst hsp
      refine (Tryd.strings_Join bk o c0 (x :: l) a1 w ?_ (World.block_lt_of_cell? w _ h0) hs.1 hc0 hs.2).mono ?_
      · intro j y hj
        have h1 := hcell j y hj
        have ha : (⟨bk, o, none⟩ : Addr).add j = ⟨bk, o + j, none⟩ := by unfold Addr.add; split <;> simp_all
        rwa [ha] at h1
      · rintro e w' ⟨rfl, hb⟩
        exact ⟨rfl, hb⟩
  · rw [if_neg hs] at h; cases h
set_option maxHeartbeats 2000000 in
set_option maxRecDepth 100000 in
theorem strconv_FormatUint_tz64 (w : World) (hc : w.cell? ⟨5, 15, none⟩ = some (.int .u8 4)) : Calls Tryd.prog 104 #[.int .u64 16] w fun e w' => e = .returned (.int .i64 4) ∧ w' = w := by
  have hx : IntKind.u64.wrap (bits BinOp.and IntKind.u64 16 (IntKind.u64.wrap (-16)) * 285870213051353865) / 288230376151711744 = 15 := by decide +kernel
  go_enter Tryd.func104, Tryd.ntmps104
  go_wp2
  go_ret
  exact ⟨rfl, rfl⟩
set_option maxHeartbeats 2000000 in
set_option maxRecDepth 100000 in
theorem strconv_FormatUint_tz (w : World) (hc : w.cell? ⟨5, 15, none⟩ = some (.int .u8 4)) : Calls Tryd.prog 102 #[.int .u64 16] w fun e w' => e = .returned (.int .i64 4) ∧ w' = w := by
  go_enter Tryd.func102, Tryd.ntmps102
  go_wp2_with (go_at_call 104; refine (strconv_FormatUint_tz64 w hc).mono ?_; rintro e w' ⟨rfl, rfl⟩)
  go_ret
  exact ⟨rfl, rfl⟩
set_option maxHeartbeats 2000000 in
set_option maxRecDepth 100000 in
theorem strconv_FormatUint_pow2 (w : World) : Calls Tryd.prog 101 #[.int .i64 16] w fun e w' => e = .returned (.bool true) ∧ w' = w := by
  have hx : bits BinOp.and IntKind.i64 16 (15) = 0 := by decide +kernel
  go_enter Tryd.func101, Tryd.ntmps101
  go_wp2
  go_ret
  exact ⟨by simp, rfl⟩
def strconv_FormatUint_hdig (n : Nat) : UInt8 := if n < 10 then UInt8.ofNat (48 + n) else UInt8.ofNat (87 + n)
def strconv_FormatUint_bcells (u c : Nat) : Array Value := ((List.range 65).map fun t => Value.int .u8 (if 65 - c ≤ t then ((strconv_FormatUint_hdig (u / 16 ^ (64 - t) % 16)).toNat : Int) else 0)).toArray
def strconv_FormatUint_hexL (u c : Nat) : List UInt8 := (List.range (c + 1)).map fun t => strconv_FormatUint_hdig (u / 16 ^ (c - t) % 16)
def strconv_FormatUint_hexC (u : Nat) : Nat := if u < 16 then 0 else if u < 256 then 1 else if u < 4096 then 2 else 3
theorem strconv_FormatUint_hexC_of (u c : Nat) (hu : u < 65536) (h3 : c ≤ 3) (h : u / 16 ^ c < 16) (h2 : c = 0 ∨ 16 ≤ u / 16 ^ (c - 1)) : c = strconv_FormatUint_hexC u := by
  have h4 : c = 0 ∨ c = 1 ∨ c = 2 ∨ c = 3 := by omega
  unfold strconv_FormatUint_hexC
  rcases h4 with rfl | rfl | rfl | rfl <;> simp at h h2 <;> (repeat' split) <;> omega
theorem strconv_FormatUint_hdig_str (k : Nat) (hk : k < 16) (hh : k < (⟨#[48, 49, 50, 51, 52, 53, 54, 55, 56, 57, 97, 98, 99, 100, 101, 102, 103, 104, 105, 106, 107, 108, 109, 110, 111, 112, 113, 114, 115, 116, 117, 118, 119, 120, 121, 122]⟩ : ByteArray).size) : (⟨#[48, 49, 50, 51, 52, 53, 54, 55, 56, 57, 97, 98, 99, 100, 101, 102, 103, 104, 105, 106, 107, 108, 109, 110, 111, 112, 113, 114, 115, 116, 117, 118, 119, 120, 121, 122]⟩ : ByteArray)[k]'hh = strconv_FormatUint_hdig k := by
  have : k = 0 ∨ k = 1 ∨ k = 2 ∨ k = 3 ∨ k = 4 ∨ k = 5 ∨ k = 6 ∨ k = 7 ∨ k = 8 ∨ k = 9 ∨ k = 10 ∨ k = 11 ∨ k = 12 ∨ k = 13 ∨ k = 14 ∨ k = 15 := by omega
  rcases this with rfl | rfl | rfl | rfl | rfl | rfl | rfl | rfl | rfl | rfl | rfl | rfl | rfl | rfl | rfl | rfl <;> rfl
theorem strconv_FormatUint_bcells_at (u c t : Nat) (ht : t < 65) : (strconv_FormatUint_bcells u c)[t]? = some (Value.int .u8 (if 65 - c ≤ t then ((strconv_FormatUint_hdig (u / 16 ^ (64 - t) % 16)).toNat : Int) else 0)) := by
  simp [strconv_FormatUint_bcells, ht]
theorem strconv_FormatUint_bcells_put (u c v i : Nat) (hc : c ≤ 3) (hi : i = 65 - c) (hv : v = u / 16 ^ c) : (strconv_FormatUint_bcells u c).setIfInBounds (i - 1) (.int .u8 ((strconv_FormatUint_hdig (v % 16)).toNat : Int)) = strconv_FormatUint_bcells u (c + 1) := by
  subst hi hv
  apply Array.ext (by simp [strconv_FormatUint_bcells])
  intro t h1 h2
  have ht : t < 65 := by simpa [strconv_FormatUint_bcells] using h2
  have hs : t < (strconv_FormatUint_bcells u c).size := by simpa [strconv_FormatUint_bcells] using ht
  have e1 : ∀ (c' : Nat) (h : t < (strconv_FormatUint_bcells u c').size), (strconv_FormatUint_bcells u c')[t]'h = Value.int .u8 (if 65 - c' ≤ t then ((strconv_FormatUint_hdig (u / 16 ^ (64 - t) % 16)).toNat : Int) else 0) := fun c' h => by simp [strconv_FormatUint_bcells]
  rw [Array.getElem_setIfInBounds hs, e1 (c + 1) h2]
  by_cases he : 65 - c - 1 = t
  · rw [if_pos he, if_pos (by omega), show 64 - t = c by omega]
  · rw [if_neg he, e1 c hs]
    by_cases h : 65 - c ≤ t
    · rw [if_pos h, if_pos (by omega)]
    · rw [if_neg h, if_neg (by omega)]
theorem strconv_FormatUint_band15 (v : Nat) (hv : v < 65536) : bits BinOp.and IntKind.u64 v 15 = ((v % 16 : Nat) : Int) := by
  have h := bits_mask .u64 63 (by decide) (fun n h0 h1 => by rw [IntKind.wrap_u64]; omega) 4 (by decide) (v : Int) (by omega) (by omega)
  simpa using h
theorem strconv_FormatUint_zero133 (u : Nat) : Tryd.zeroCells133 = strconv_FormatUint_bcells u 0 := by
  have h : Tryd.zeroCells133 = Array.replicate 65 (.int .u8 0) := by kernel_rfl
  rw [h]
  apply Array.ext (by simp [strconv_FormatUint_bcells])
  intro t h1 h2
  have ht : t < 65 := by simpa using h1
  simp [strconv_FormatUint_bcells]
  omega
set_option maxHeartbeats 2000000 in
set_option maxRecDepth 100000 in
theorem strconv_FormatUint_fb (u : Nat) (hu : u < 65536) (w : World) (hc : w.cell? ⟨5, 15, none⟩ = some (.int .u8 4)) : Calls Tryd.prog 91 #[.slice none 0 0, .int .u64 u, .int .i64 16, .bool false, .bool false] w fun e w' => e = .returned (.tuple #[.slice none 0 0, .string ⟨(strconv_FormatUint_hexL u (strconv_FormatUint_hexC u)).toArray⟩]) ∧ Below w.heap.size w w' := by
  have hc1 := pw_cell_below ((Below.refl w.heap.size w).alloc (Nat.le_refl _) (Obj.cells Tryd.zeroCells133 133)) hc
  have hb1 := heap_alloc_new w (Obj.cells Tryd.zeroCells133 133)
  have hB1 := (Below.refl w.heap.size w).alloc (Nat.le_refl _) (Obj.cells Tryd.zeroCells133 133)
  go_enter Tryd.func91, Tryd.ntmps91
  go_wp2_with (first | (go_at_call 101; refine (strconv_FormatUint_pow2 _).mono ?_; rintro e w' ⟨rfl, rfl⟩))
  refine (strconv_FormatUint_tz _ hc1).mono ?_
  rintro e w' ⟨rfl, rfl⟩
  generalize (w.alloc (Obj.cells Tryd.zeroCells133 133)) = w1 at *
  go_wp2
  go_loopw [1, 13] (fun vu vi wr => ∃ c v i : Nat, Aside0 (c ≤ 3 ∧ v = u / 16 ^ c ∧ i = 65 - c ∧ (c = 0 ∨ 16 ≤ u / 16 ^ (c - 1))) ∧ v < 65536 ∧ 62 ≤ i ∧ i ≤ 65 ∧ vu = .int .u64 v ∧ vi = .int .i64 i ∧ Aside0 (wr.heap[w.heap.size]? = some (.cells (strconv_FormatUint_bcells u c) 133 (0, 0))) ∧ Aside0 (Below w.heap.size w wr) ∧ 0 ≤ c) (fun vu _ _ => (RowKit.intOf vu).toNat)
  case atStart => exact ⟨0, u, 65, ⟨by omega, by simp, rfl, .inl rfl⟩, hu, by omega, by omega, rfl, rfl, ⟨by rw [← strconv_FormatUint_zero133 u]; exact hb1⟩, ⟨hB1⟩, by omega⟩
  case round =>
    obtain ⟨c, v, i, H1, hv, hi1, hi2, rfl, rfl, hb, hB, hcu⟩ := hrel
    have hfz := blk_frozen hb.out (i - 1)
    have hcl : wr.cell? ⟨w.heap.size, i - 1, none⟩ = some (.int .u8 0) := by rw [blk_cell hb.out, strconv_FormatUint_bcells_at _ _ _ (by omega), if_neg (by have := H1.out; omega)]
    have hbit := strconv_FormatUint_band15 v hv
    by_cases h16 : 16 ≤ v
    · go_wp2
      have e1 := strconv_FormatUint_bcells_put u c v i H1.out.1 H1.out.2.2.1 H1.out.2.1
      clear hbit
      refine ⟨⟨c + 1, v / 16, i - 1, ⟨?_⟩, by omega, ?_, by omega, by go_num, by go_num, ⟨?_⟩, ⟨below_set hB.out (Nat.le_refl _)⟩, by omega⟩, ?_⟩
      · have h1 := H1.out
        have h3 : c = 0 ∨ c = 1 ∨ c = 2 ∨ c = 3 := by omega
        obtain ⟨-, h2, h4, -⟩ := h1
        refine ⟨?_, ?_, by omega, .inr (by rw [Nat.add_sub_cancel, ← h2]; exact h16)⟩
        · rcases h3 with rfl | rfl | rfl | rfl <;> simp at h2 <;> omega
        · rw [h2, Nat.pow_succ, Nat.div_div_eq_div_mul]
      · have h1 := H1.out
        obtain ⟨-, h2, h4, -⟩ := h1
        have h3 : c = 0 ∨ c = 1 ∨ c = 2 ∨ c = 3 := by omega
        rcases h3 with rfl | rfl | rfl | rfl <;> simp at h2 <;> omega
      · rw [strconv_FormatUint_hdig_str (v % 16) (by omega)]
        exact blk_put hb.out _ _ e1
      · simp [RowKit.intOf]; omega
    · have hsl : ∀ W, (Instr.sliceAt 133 (.pointer (some ⟨w.heap.size, 0, none⟩)) (some (.int .i64 (↑i - 1))) none none).run Tryd.prog W = .ok (.slice (some ⟨w.heap.size, i - 1, none⟩) (66 - i) (66 - i)) W := fun W => by
        rw [run_sliceAt_array_l W 133 ⟨w.heap.size, 0, none⟩ (by simp [Program.arrayLen, Program.elem, Tryd.underlying133]) .i64 (i - 1) (by omega) (by simp [Program.arrayLen, Tryd.underlying133]; omega)]
        go_simp
        omega
      go_upto_region 30 with fail
      go_name_world W1 hW1
      have hb1 : W1.heap[w.heap.size]? = some (.cells (strconv_FormatUint_bcells u (c + 1)) 133 (0, 0)) := by
        rw [← hW1, strconv_FormatUint_hdig_str v (by omega)]
        refine blk_put hb.out _ _ ?_
        have e1 := strconv_FormatUint_bcells_put u c v i H1.out.1 H1.out.2.2.1 H1.out.2.1
        rwa [Nat.mod_eq_of_lt (by omega)] at e1
      have hB1 : Below w.heap.size w W1 := by rw [← hW1]; exact below_set hB.out (Nat.le_refl _)
      have hcv : (convert 77 9 (.slice (some ⟨w.heap.size, i - 1, none⟩) (66 - i) (66 - i))).run Tryd.prog W1 = .ok (.string ⟨(strconv_FormatUint_hexL u (strconv_FormatUint_hexC u)).toArray⟩) W1 := by
        have hc0 : c = strconv_FormatUint_hexC u := strconv_FormatUint_hexC_of u c hu H1.out.1 (by rw [← H1.out.2.1]; omega) H1.out.2.2.2
        have hci := H1.out.2.2.1
        have h := run_convert_bytes_back (P := Tryd.prog) W1 77 9 5 ⟨w.heap.size, i - 1, none⟩ (66 - i) (strconv_FormatUint_hexL u c) Tryd.underlying77 Tryd.underlying5 Tryd.underlying9 (fun j hj => by
          have hj2 : j < c + 1 := by simpa [strconv_FormatUint_hexL] using hj
          have ha : (⟨w.heap.size, i - 1, none⟩ : Addr).add j = ⟨w.heap.size, i - 1 + j, none⟩ := by unfold Addr.add; split <;> simp_all
          rw [ha, blk_cell hb1, strconv_FormatUint_bcells_at _ _ _ (by omega), if_pos (by omega)]
          simp only [strconv_FormatUint_hexL, List.getElem_map, List.getElem_range]
          rw [show 64 - (i - 1 + j) = c - j by omega])
        rw [show (strconv_FormatUint_hexL u c).length = 66 - i by simp [strconv_FormatUint_hexL]; omega] at h
        rw [← hc0]
        exact h
      clear hW1
      go_wp2
      refine bodyPost_ret (results_tmp2 rfl _ _ _) rfl ⟨rfl, hB1⟩
set_option maxHeartbeats 2000000 in
set_option maxRecDepth 100000 in
theorem strconv_FormatUint_fu0 (u : Nat) (hu : u < 65536) (w : World) (hc : w.cell? ⟨5, 15, none⟩ = some (.int .u8 4)) : Calls Tryd.prog 66 #[.int .u64 u, .int .i64 16] w fun e w' => e = .returned (.string ⟨(strconv_FormatUint_hexL u (strconv_FormatUint_hexC u)).toArray⟩) ∧ Below w.heap.size w w' := by
  go_enter Tryd.func66, Tryd.ntmps66
  go_wp2_with (go_at_call 91; refine (strconv_FormatUint_fb u hu _ (by first | exact hc | exact pw_cell_below ((Below.refl _ _).alloc (Nat.le_refl _) _) hc)).mono ?_; rintro e w' ⟨rfl, hb⟩)
  go_ret
  exact ⟨rfl, by first | exact hb | exact ((Below.refl _ _).alloc (Nat.le_refl _) _).trans (hb.mono (by simp))⟩
set_option maxHeartbeats 2000000 in
set_option maxRecDepth 100000 in
theorem strconv_FormatUint_fu1 (u : Nat) (hu : u < 65536) (w : World) (hc : w.cell? ⟨5, 15, none⟩ = some (.int .u8 4)) : Calls Tryd.prog 48 #[.int .u64 u, .int .i64 16] w fun e w' => e = .returned (.string ⟨(strconv_FormatUint_hexL u (strconv_FormatUint_hexC u)).toArray⟩) ∧ Below w.heap.size w w' := by
  go_enter Tryd.func48, Tryd.ntmps48
  go_wp2_with (go_at_call 66; refine (strconv_FormatUint_fu0 u hu _ hc).mono ?_; rintro e w' ⟨rfl, hb⟩)
  go_ret
  exact ⟨rfl, hb⟩
def strconv_FormatUint.f (a0 : Int) (a1 : Int) : Option ByteArray := if a1 = 16 ∧ 0 ≤ a0 ∧ a0 < 65536 then some ⟨(strconv_FormatUint_hexL a0.toNat (strconv_FormatUint_hexC a0.toNat)).toArray⟩ else none
theorem strconv_FormatUint.calls (a0 : Int) (a1 : Int) (r : ByteArray) (w : World) (hG : GW w) (h : strconv_FormatUint.f a0 a1 = some r) :
    Calls Tryd.prog 48 #[.int .u64 a0, .int .i64 a1] w fun e w' => e = .returned (.string r) ∧ Below w.heap.size w w' := by
  unfold strconv_FormatUint.f at h
  by_cases hc : a1 = 16 ∧ 0 ≤ a0 ∧ a0 < 65536
  · rw [if_pos hc] at h
    obtain rfl := Option.some.inj h
    obtain ⟨rfl, h0, h1⟩ := hc
    have := strconv_FormatUint_fu1 a0.toNat (by omega) w (hG.t5.cell (by kernel_rfl) 15 (by decide))
    rw [Int.toNat_of_nonneg h0] at this
    exact this
  · rw [if_neg hc] at h; cases h
def ip_hex.l0 : Nat → List ByteArray → List Int → Int → Int → Option (ByteArray)
  | 0, _, _, _, _ => none
  | k + 1, x3, x6, x7, x8 => if x8 < x7 then (if 0 ≤ x8 then (if x8 < (x6.length : Int) then ((strconv_FormatUint.f (IntKind.u64.wrap (rd x6 x8)) 16).bind fun t196 => (if x3.length < 8796093022208 then (ip_hex.l0 k (x3 ++ [t196]) x6 x7 (wrap64 (x8 + 1))) else (none))) else (none)) else (none)) else ((strings_Join.f x3 (⟨#[58]⟩ : ByteArray)).bind fun t200 => (some t200))
def ip_hex.f (k : Nat) (l0 : List Int) : Option (ByteArray) := ip_hex.l0 k ([] : List ByteArray) l0 (l0.length : Int) 0
theorem ip_hex.mono_l : ∀ k, (∀ y0 y1 y2 y3, LeO (ip_hex.l0 k y0 y1 y2 y3) (ip_hex.l0 (k + 1) y0 y1 y2 y3))
  | 0 => fun _ _ _ _ r h => by simp [ip_hex.l0] at h
  | k + 1 => by
    have ih0 := ip_hex.mono_l k
    · intro y0 y1 y2 y3
      unfold ip_hex.l0
      exact xmo
theorem ip_hex.mono : ∀ a0 k, LeO (ip_hex.f k a0) (ip_hex.f (k + 1) a0) := by
  intro a0 k
  have ih0 := ip_hex.mono_l k
  unfold ip_hex.f
  exact xmo
set_option maxHeartbeats 8000000 in
set_option maxRecDepth 100000 in
theorem ip_hex.calls (k : Nat) (A0 : Option Addr) (c0 : Nat) (l0 : List Int) (r : ByteArray) (w : World) (hr0 : Kd.C (Kd.int .u16) w A0 l0.length l0) (hc0 : l0.length ≤ c0) (hG : GW w) (h : ip_hex.f k l0 = some r) :
    Calls Tryd.prog 34 #[.slice A0 l0.length c0] w fun e w' => e = .returned (.string r) ∧ Below w.heap.size w w' := by
 have HR0 := Aside0.mk hr0
 have HC0 := Aside0.mk hc0
 clear hr0 hc0
 have HB := Aside0.mk (Below.refl w.heap.size w)
 have H : (ip_hex.l0 k ([] : List ByteArray) l0 (l0.length : Int) 0) = some r := h
 clear h
 have H' := Aside0.mk H
 clear H
 go_enter Tryd.func34, Tryd.ntmps34
 go_wp2
 go_loopg [3, 8] k (fun kq v3 v8 w' => ∃ (x3_1 : List ByteArray) (x8_1 : Int), v8 = .int .i64 x8_1 ∧ Aside0 (ip_hex.l0 kq x3_1 l0 (l0.length : Int) x8_1 = some r) ∧ Aside0 (kq ≤ k) ∧ Aside0 (Kd.R Kd.string 9 w' w.heap.size (fun _ => True) v3 x3_1) ∧ Aside0 (Below w.heap.size w w'))
 case atStart => exact ⟨(([] : List ByteArray)), (0), xrr, H', ⟨Nat.le_refl _⟩, ⟨by first | exact Kd.R_nil _ _ _ _ _ | exact Kd.N_nil _ _ _ _ _ | exact Kd.V_nil _ _ _ _ _ | exact Kd.Q_nil _ _ _ _ _ | exact Kd.S_nil _ _ _ _ _⟩, ⟨xbl⟩⟩
 case round =>
  clear H'
  obtain ⟨x3_1, x8_1, rfl, HA, HK1, HO_3, HB⟩ := hrel
  cases gk with
  | zero => exact absurd HA.out (by simp [ip_hex.l0])
  | succ k1 =>
   have H := HA.out
   clear HA
   simp only [ip_hex.l0] at H
   by_cases c2 : x8_1 < (l0.length : Int)
   ·
    rw [if_pos c2] at H
    have c2b0 := decide_eq_true c2
    clear c2
    by_cases c3 : 0 ≤ x8_1
    ·
     rw [if_pos c3] at H
     have c3b0 := decide_eq_true c3
     clear c3
     by_cases c4 : x8_1 < (l0.length : Int)
     ·
      rw [if_pos c4] at H
      have c4b0 := decide_eq_true c4
      clear c4
      replace H := Option.bind_eq_some_iff.mp H
      obtain ⟨t196, A50, H⟩ := H
      try dsimp only at H
      have A5 := Aside0.mk A50
      clear A50
      by_cases c6 : x3_1.length < 8796093022208
      ·
       rw [if_pos c6] at H
       have LMc6 := Aside0.mk c6
       clear c6
       obtain ⟨y197, hy197⟩ : ∃ y_ : List ByteArray, y_ = (x3_1 ++ [t196]) := ⟨_, rfl⟩
       replace H : (ip_hex.l0 k1 y197 l0 (l0.length : Int) (wrap64 (x8_1 + 1))) = some r := by first | (rw [hy197]; with_reducible exact H) | (have H2_ := (Option.bind_some _ _).symm.trans H; rw [hy197]; with_reducible exact H2_) | (have H2_ := (Option.bind_some _ _).symm.trans H; with_reducible exact H2_) | with_reducible exact H | (rw [hy197]; exact H) | exact H
       have Ny197 := Aside0.mk hy197
       clear hy197
       have H' := Aside0.mk H
       clear H
       have p195 : 0 ≤ (x8_1 : Int) := xod
       have q195 : x8_1 < (l0.length : Int) := xod
       obtain ⟨ad195, e195, hx195_0⟩ := Kd.at_int HR0.out x8_1 p195 q195
       cases e195
       replace hx195_0 := (HB.out.cell (World.block_lt_of_cell? w _ hx195_0)).trans hx195_0
       replace p195 := eq_true p195
       replace q195 := eq_true q195
       try (have q195x := q195; simp only [ByteArray.size_extract, Nat.min_self] at q195x)
       go_wp2_with (first | ((with_reducible refine gate_callee (f := 48) rfl ?_); refine xgl 15 Tryd.func48 #[.int .u64 (IntKind.u64.wrap (rd l0 x8_1)), .int .i64 16] ?_; (with_reducible refine (strconv_FormatUint.calls (IntKind.u64.wrap (rd l0 x8_1)) 16 t196 _ ?side1 A5.out).mono ?_); (case side1 => first | (with_reducible exact hG) | exact GW_to hG xbl); rintro e w7 ⟨rfl, hb⟩; refine ⟨_, rfl, ?_⟩; replace HO_3 := Aside0.mk (Kd.R_below (xkd HO_3) hb); replace HB := xst hb; (try clear hb)) | ((with_reducible refine gate_builtin (b := .append) (xs := #[.tmp 12, .tmp 16]) rfl ?_); at_builtin; refine Kd.R_append Kd.string (w0 := w) w.heap.size rfl (.tmp 12) (.tmp 16) 43 9 (.string ⟨#[]⟩) 16 rfl Tryd.underlying43 info9 rfl (by decide) (by omega) u3 x3_1 t196 [.string t196] (fun _ => True) (fun _ => False) rfl rfl ?aP (fun _ hk => hk.elim) ?aF ?aO ?aB ?aS ?aL ?_; (case aP => exact rfl); (case aB => exact xbl); (case aF => exact (fun _ _ => trivial)); (case aO => exact (xkd HO_3)); (case aS => exact (below_size xbl)); (case aL => have := LMc6.out; omega); intro v198 w8 ho hb hg hat; rw [← Ny197.out] at ho; have n0_ := Aside0.mk (hb); have n1_ := Aside0.mk (ho); clear HB; clear HO_3; have HB := n0_; have HO199 := n1_; clear n0_ n1_; clear ho hb hg hat))
       go_roundg k1
       case measure => have := HK1.out; omega
       case rel => exact ⟨(y197), (wrap64 (x8_1 + 1)), xrr, H', ⟨by have := HK1.out; omega⟩, ⟨xkd HO199⟩, ⟨xbl⟩⟩
      ·
       rw [if_neg c6] at H
       exact absurd H (by simp)
     ·
      rw [if_neg c4] at H
      exact absurd H (by simp)
    ·
     rw [if_neg c3] at H
     exact absurd H (by simp)
   ·
    rw [if_neg c2] at H
    have c2b0 := decide_eq_false c2
    clear c2
    replace H := Option.bind_eq_some_iff.mp H
    obtain ⟨t200, A90, H⟩ := H
    try dsimp only at H
    have A9 := Aside0.mk A90
    clear A90
    obtain rfl := Option.some.inj H
    obtain ⟨Ao10, co10, eo10⟩ := Kd.R_slice HO_3.out
    subst eo10
    go_wp2_with (first | ((with_reducible refine gate_callee (f := 36) rfl ?_); refine xgl 20 Tryd.func36 #[.slice Ao10 x3_1.length co10, .string (⟨#[58]⟩ : ByteArray)] ?_; (with_reducible refine (strings_Join.calls _ _ x3_1 (⟨#[58]⟩ : ByteArray) t200 _ ?side1 ?side2 A9.out).mono ?_); (case side1 => repeat (first | exact (Kd.R_reads' HO_3.out).2.2 | (with_reducible refine Kd.C_alloc ?_ _) | (with_reducible refine Kd.C_drewN ?_ _) | (with_reducible refine Kd.C_drew ?_))); (case side2 => exact (Kd.R_reads' HO_3.out).2.1); rintro e w11 ⟨rfl, hb⟩; refine ⟨_, rfl, ?_⟩; replace HO_3 := Aside0.mk (Kd.R_below (xkd HO_3) hb); replace HB := xst hb; (try clear hb)))
    go_ret
    exact ⟨xre, xbl⟩
theorem ip_Text6_C {w : World} {g o : Nat} {cs : Array Value} {t : TypeId} {n : Nat} (xs : List Int) (h : w.heap[g]? = some (.cells cs t (0, 0))) (hn : xs.length = n) (hx : ∀ j p, xs[j]? = some p → cs[o + j]? = some (.int .u16 p)) (hl : xs.length ≤ 9223372036854775807) : Kd.C (Kd.int .u16) w (some ⟨g, o, none⟩) n xs := by
  refine ⟨hn, hn ▸ hl, fun _ => ⟨_, rfl, fun j p hj => ⟨[.int .u16 p], rfl, rfl, fun i u hu => ?_⟩⟩⟩
  cases i with
  | succ i => simp at hu
  | zero =>
    simp only [List.getElem?_cons_zero, Option.some.injEq] at hu
    subst hu
    have ha : (⟨g, o, none⟩ : Addr).add (j * (Kd.int .u16).sz + 0) = ⟨g, o + j, none⟩ := by
      have e : j * (Kd.int .u16).sz + 0 = j := by show j * 1 + 0 = j; omega
      rw [e]; unfold Addr.add; split <;> simp_all
    rw [ha, blk_cell h]
    exact hx j p hj
set_option maxHeartbeats 2000000 in
set_option maxRecDepth 100000 in
theorem ip_Text6_whole (a0 a1 a2 a3 a4 a5 a6 a7 r1 : Int) (x : ByteArray) (w : World)
    (hg : ∀ w, Calls Tryd.prog 33 #[.agg #[.int .u16 a0, .int .u16 a1, .int .u16 a2, .int .u16 a3, .int .u16 a4, .int .u16 a5, .int .u16 a6, .int .u16 a7]] w fun e w' => e = .returned (.tuple #[.int .i64 r1, .int .i64 0]) ∧ Below w.heap.size w w')
    (hx : ∀ A c w1, Below w.heap.size w w1 → Kd.C (Kd.int .u16) w1 A 8 [a0, a1, a2, a3, a4, a5, a6, a7] → 8 ≤ c → Calls Tryd.prog 34 #[.slice A 8 c] w1 fun e w' => e = .returned (.string x) ∧ Below w1.heap.size w1 w') :
    Calls Tryd.prog 16 #[.agg #[.int .u16 a0, .int .u16 a1, .int .u16 a2, .int .u16 a3, .int .u16 a4, .int .u16 a5, .int .u16 a6, .int .u16 a7]] w fun e w' => e = .returned (.string x) ∧ Below w.heap.size w w' := by
  have hsl : ∀ W, (Instr.sliceAt 27 (.pointer (some ⟨w.heap.size, 0, none⟩)) none none none).run Tryd.prog W = .ok (.slice (some ⟨w.heap.size, 0, none⟩) 8 8) W := fun W => by
    rw [run_sliceAt_array_all W 27 ⟨w.heap.size, 0, none⟩ (by simp [Program.arrayLen, Program.elem, Tryd.underlying27])]
    go_simp
  go_enter Tryd.func16, Tryd.ntmps16
  go_wp2_with (go_at_call 33; refine (hg _).mono ?_; rintro e w' ⟨rfl, hb⟩)
  have h1 := blk_below (blk_new w _) hb
  have h2 := ((Below.refl w.heap.size w).alloc (Nat.le_refl _) _).trans (hb.mono (by simp))
  refine (hx _ _ _ h2 (ip_Text6_C _ h1 rfl ?_ (by simp)) (by decide)).mono ?_
  · intro j p hj
    have hj2 : j < 8 := by have := (List.getElem?_eq_some_iff.1 hj).1; simpa using this
    match j, hj2 with
    | 0, _ | 1, _ | 2, _ | 3, _ | 4, _ | 5, _ | 6, _ | 7, _ => simp at hj ⊢; exact hj
  rintro e w2 ⟨rfl, hb2⟩
  go_wp2
  go_ret
  exact ⟨rfl, h2.trans (hb2.mono h2.size)⟩
set_option maxHeartbeats 4000000 in
set_option maxRecDepth 100000 in
theorem ip_Text6_gap (a0 a1 a2 a3 a4 a5 a6 a7 : Int) (n1 n2 : Nat) (hn : n1 + n2 ≤ 8) (hn2 : n2 ≠ 0) (x y : ByteArray) (hs1 : x.size + 2 ≤ 9223372036854775807) (hs2 : x.size + 2 + y.size ≤ 9223372036854775807) (o : Nat) (ho : n1 + n2 < 8 ∧ o = n1 + n2 ∨ n1 + n2 = 8 ∧ o = 0) (w : World)
    (hg : ∀ w, Calls Tryd.prog 33 #[.agg #[.int .u16 a0, .int .u16 a1, .int .u16 a2, .int .u16 a3, .int .u16 a4, .int .u16 a5, .int .u16 a6, .int .u16 a7]] w fun e w' => e = .returned (.tuple #[.int .i64 n1, .int .i64 n2]) ∧ Below w.heap.size w w')
    (hx : ∀ A c w1, Below w.heap.size w w1 → Kd.C (Kd.int .u16) w1 A n1 ([a0, a1, a2, a3, a4, a5, a6, a7].take n1) → n1 ≤ c → Calls Tryd.prog 34 #[.slice A n1 c] w1 fun e w' => e = .returned (.string x) ∧ Below w1.heap.size w1 w')
    (hy : ∀ A c w1, Below w.heap.size w w1 → Kd.C (Kd.int .u16) w1 A (8 - (n1 + n2)) ([a0, a1, a2, a3, a4, a5, a6, a7].drop (n1 + n2)) → 8 - (n1 + n2) ≤ c → Calls Tryd.prog 34 #[.slice A (8 - (n1 + n2)) c] w1 fun e w' => e = .returned (.string y) ∧ Below w1.heap.size w1 w') :
    Calls Tryd.prog 16 #[.agg #[.int .u16 a0, .int .u16 a1, .int .u16 a2, .int .u16 a3, .int .u16 a4, .int .u16 a5, .int .u16 a6, .int .u16 a7]] w fun e w' => e = .returned (.string (x ++ (⟨#[58, 58]⟩ : ByteArray) ++ y)) ∧ Below w.heap.size w w' := by
  have hal : Tryd.prog.arrayLen 27 = 8 := by simp [Program.arrayLen, Tryd.underlying27]
  have hsl1 : ∀ W, (Instr.sliceAt 27 (.pointer (some ⟨w.heap.size, 0, none⟩)) none (some (.int .i64 n1)) none).run Tryd.prog W = .ok (.slice (some ⟨w.heap.size, 0, none⟩) n1 8) W := fun W => by
    rw [run_sliceAt_array_h W 27 ⟨w.heap.size, 0, none⟩ (by simp [Program.arrayLen, Program.elem, Tryd.underlying27]) .i64 n1 (by omega) (by rw [hal]; omega)]
    go_simp
  have hsl2 : ∀ W, (Instr.sliceAt 27 (.pointer (some ⟨w.heap.size, 0, none⟩)) (some (.int .i64 ((n1 : Int) + n2))) none none).run Tryd.prog W = .ok (.slice (some ⟨w.heap.size, o, none⟩) (8 - (n1 + n2)) (8 - (n1 + n2))) W := fun W => by
    rw [run_sliceAt_array_l W 27 ⟨w.heap.size, 0, none⟩ (by simp [Program.arrayLen, Program.elem, Tryd.underlying27]) .i64 ((n1 : Int) + n2) (by omega) (by rw [hal]; omega)]
    have ez : ((n1 : Int) + n2).toNat = n1 + n2 := by omega
    rw [hal, ez]
    rcases ho with ⟨h7, rfl⟩ | ⟨h8, rfl⟩
    · have e1 : (8 = n1 + n2) = False := eq_false (by omega)
      go_simp
    · rw [h8]
      go_simp
  have hsum : wrap64 ((n1 : Int) + n2) = (n1 : Int) + n2 := by unfold wrap64; omega
  have c8b0 := eq_true hs1
  have c8b1 := decide_eq_true hs1
  have c8b2 : (9223372036854775807 < x.size + 2) = False := eq_false (Nat.not_lt.2 hs1)
  have c9b0 := eq_true hs2
  have c9b1 := decide_eq_true hs2
  have c9b2 : (9223372036854775807 < x.size + 2 + y.size) = False := eq_false (Nat.not_lt.2 hs2)
  go_enter Tryd.func16, Tryd.ntmps16
  go_wp2_with (go_at_call 33; refine (hg _).mono ?_; rintro e w' ⟨rfl, hb⟩)
  have h1 := blk_below (blk_new w _) hb
  have h2 := ((Below.refl w.heap.size w).alloc (Nat.le_refl _) _).trans (hb.mono (by simp))
  have hC1 : ∀ W, Below w'.heap.size w' W → Kd.C (Kd.int .u16) W (some ⟨w.heap.size, 0, none⟩) n1 ([a0, a1, a2, a3, a4, a5, a6, a7].take n1) := fun W hW => ip_Text6_C _ (blk_below h1 hW) (by simp; omega) (fun j p hj => by
    rw [List.getElem?_take] at hj
    split at hj
    · have hj2 : j < 8 := by have := (List.getElem?_eq_some_iff.1 hj).1; simpa using this
      match j, hj2 with
      | 0, _ | 1, _ | 2, _ | 3, _ | 4, _ | 5, _ | 6, _ | 7, _ => simp at hj ⊢; exact hj
    · cases hj) (by simp; omega)
  have hC2 : ∀ W, Below w'.heap.size w' W → Kd.C (Kd.int .u16) W (some ⟨w.heap.size, o, none⟩) (8 - (n1 + n2)) ([a0, a1, a2, a3, a4, a5, a6, a7].drop (n1 + n2)) := fun W hW => ip_Text6_C _ (blk_below h1 hW) (by simp) (fun j p hj => by
    rw [List.getElem?_drop] at hj
    have hj2 : n1 + n2 + j < 8 := by have := (List.getElem?_eq_some_iff.1 hj).1; simpa using this
    obtain rfl : o = n1 + n2 := by omega
    generalize n1 + n2 + j = t at *
    match t, hj2 with
    | 0, _ | 1, _ | 2, _ | 3, _ | 4, _ | 5, _ | 6, _ | 7, _ => simp at hj ⊢; exact hj) (by simp; omega)
  clear h1 hg hb
  refine start_ (n := 11) (S := fun w' => True) (ds := []) #[false, false, false, false, false, false, false, false, false, false, false] (by kernel_rfl) rfl rfl trivial (fun hHeld => ?_)
  have hq1 : Below w'.heap.size w' w'.drew := below_drew1 (Below.refl _ _)
  have hq3 := h2.trans (hq1.mono h2.size)
  generalize w'.drew = w3 at hq1 hq3 hHeld ⊢
  refine pure_ (i := 0) (N := some 14) (v := ?_) (a' := ?_) #[true, false, false, false, false, false, false, false, false, false, false] rfl rfl (by kernel_rfl) (fun _ _ _ h => h) (Or.inl ⟨by rfl, ?_⟩) ?_ ?_
  rotate_left
  · intro w'
    go_simp
    with_reducible rfl
  rotate_left
  · simp only [Act.put, List.setIfInBounds_toArray, List.set_cons_zero, List.set_cons_succ, i64_w, i32_w]
    rfl
  refine pure_ (i := 1) (N := some 15) (v := ?_) (a' := ?_) #[true, true, false, false, false, false, false, false, false, false, false] rfl rfl (by kernel_rfl) (fun _ _ _ h => h) (Or.inl ⟨by rfl, ?_⟩) ?_ ?_
  rotate_left
  · intro w'
    go_simp
    with_reducible rfl
  rotate_left
  · simp only [Act.put, List.setIfInBounds_toArray, List.set_cons_zero, List.set_cons_succ, i64_w, i32_w]
    rfl
  refine pure_ (i := 4) (N := some 18) (v := ?_) (a' := ?_) #[true, true, false, false, true, false, false, false, false, false, false] rfl rfl (by kernel_rfl) (fun _ _ _ h => h) (Or.inl ⟨by rfl, ?_⟩) ?_ ?_
  rotate_left
  · intro w'
    go_simp
    with_reducible rfl
  rotate_left
  · simp only [Act.put, List.setIfInBounds_toArray, List.set_cons_zero, List.set_cons_succ, i64_w, i32_w]
    rfl
  refine pure_ (i := 5) (N := some 19) (v := ?_) (a' := ?_) #[true, true, false, false, true, true, false, false, false, false, false] rfl rfl (by kernel_rfl) (fun _ _ _ h => h) (Or.inl ⟨by rfl, ?_⟩) ?_ ?_
  rotate_left
  · intro w'
    go_simp
    with_reducible rfl
  rotate_left
  · simp only [Act.put, List.setIfInBounds_toArray, List.set_cons_zero, List.set_cons_succ, i64_w, i32_w]
    rfl
  refine pure_ (i := 6) (N := some 20) (v := ?_) (a' := ?_) #[true, true, false, false, true, true, true, false, false, false, false] rfl rfl (by kernel_rfl) (fun _ _ _ h => h) (Or.inl ⟨by rfl, ?_⟩) ?_ ?_
  rotate_left
  · intro w'
    go_simp
    with_reducible rfl
  rotate_left
  · simp only [Act.put, List.setIfInBounds_toArray, List.set_cons_zero, List.set_cons_succ, i64_w, i32_w]
    rfl
  refine pure_ (i := 7) (N := some 21) (v := ?_) (a' := ?_) #[true, true, false, false, true, true, true, true, false, false, false] rfl rfl (by kernel_rfl) (fun _ _ _ h => h) (Or.inl ⟨by rfl, ?_⟩) ?_ ?_
  rotate_left
  · intro w'
    go_simp
    with_reducible rfl
  rotate_left
  · simp only [Act.put, List.setIfInBounds_toArray, List.set_cons_zero, List.set_cons_succ, i64_w, i32_w]
    rfl
  refine one_ (i := 2) (N := some 16) #[true, true, true, false, true, true, true, true, false, false, false] rfl rfl (by kernel_rfl) (by decide) (fun K hK => ?_)
  refine goes_ Tryd.func34 (by kernel_rfl) rfl #[.slice (some ⟨w.heap.size, 0, none⟩) n1 8] (by rfl) rfl rfl (by (try simp only [List.map_toArray, List.map_cons, List.map_nil]); first | done | rfl) ?_
  with_reducible refine (hx _ _ _ hq3 (hC1 _ hq1) (by omega)).mono ?_
  rintro e w4 ⟨rfl, hb4⟩
  refine ⟨_, rfl, ?_⟩
  have hq5 := hq1.trans (hb4.mono hq1.size)
  have hq6 := h2.trans (hq5.mono h2.size)
  refine hK.out _ _ trivial (fun hHeld => ?_)
  clear hK K
  refine norm_ (a' := ?_) ?_ ?_
  rotate_left
  · show Act.put _ (some 16) _ = _
    simp only [Act.put, List.setIfInBounds_toArray, List.set_cons_zero, List.set_cons_succ, i64_w, i32_w]
    rfl
  refine pure_ (i := 3) (N := some 17) (v := ?_) (a' := ?_) #[true, true, true, true, true, true, true, true, false, false, false] rfl rfl (by kernel_rfl) (fun _ _ _ h => h) (Or.inl ⟨by rfl, ?_⟩) ?_ ?_
  rotate_left
  · intro w'
    go_simp
    with_reducible rfl
  rotate_left
  · simp only [Act.put, List.setIfInBounds_toArray, List.set_cons_zero, List.set_cons_succ, i64_w, i32_w]
    rfl
  refine one_ (i := 8) (N := some 22) #[true, true, true, true, true, true, true, true, true, false, false] rfl rfl (by kernel_rfl) (by decide) (fun K hK => ?_)
  refine goes_ Tryd.func34 (by kernel_rfl) rfl #[.slice (some ⟨w.heap.size, o, none⟩) (8 - (n1 + n2)) (8 - (n1 + n2))] (by rfl) rfl rfl (by (try simp only [List.map_toArray, List.map_cons, List.map_nil]); first | done | rfl) ?_
  with_reducible refine (hy _ _ _ hq6 (hC2 _ hq5) (Nat.le_refl _)).mono ?_
  rintro e w5 ⟨rfl, hb5⟩
  refine ⟨_, rfl, ?_⟩
  refine hK.out _ _ trivial (fun hHeld => ?_)
  clear hK K
  refine norm_ (a' := ?_) ?_ ?_
  rotate_left
  · show Act.put _ (some 22) _ = _
    simp only [Act.put, List.setIfInBounds_toArray, List.set_cons_zero, List.set_cons_succ, i64_w, i32_w]
    rfl
  refine pure_ (i := 9) (N := some 23) (v := ?_) (a' := ?_) #[true, true, true, true, true, true, true, true, true, true, false] rfl rfl (by kernel_rfl) (fun _ _ _ h => h) (Or.inl ⟨by rfl, ?_⟩) ?_ ?_
  rotate_left
  · intro w'
    go_simp
    with_reducible rfl
  rotate_left
  · simp only [Act.put, List.setIfInBounds_toArray, List.set_cons_zero, List.set_cons_succ, i64_w, i32_w]
    rfl
  refine pure_ (i := 10) (N := some 2) (v := ?_) (a' := ?_) #[true, true, true, true, true, true, true, true, true, true, true] rfl rfl (by kernel_rfl) (fun _ _ _ h => h) (Or.inl ⟨by rfl, ?_⟩) ?_ ?_
  rotate_left
  · intro w'
    go_simp
    with_reducible rfl
  rotate_left
  · simp only [Act.put, List.setIfInBounds_toArray, List.set_cons_zero, List.set_cons_succ, i64_w, i32_w]
    rfl
  refine done_ (by kernel_rfl) ?_
  
  try go_wp2
  go_ret
  exact ⟨rfl, hq6.trans (hb5.mono hq6.size)⟩
def ip_Text6.f (k : Nat) (a0 a1 a2 a3 a4 a5 a6 a7 : Int) : Option ByteArray :=
  (ip_gap.f k a0 a1 a2 a3 a4 a5 a6 a7).bind fun p =>
    if p.2 = 0 then ip_hex.f k [a0, a1, a2, a3, a4, a5, a6, a7]
    else if 0 ≤ p.1 ∧ 0 ≤ p.2 ∧ p.1 + p.2 ≤ 8 then (ip_hex.f k ([a0, a1, a2, a3, a4, a5, a6, a7].take p.1.toNat)).bind fun x => (ip_hex.f k ([a0, a1, a2, a3, a4, a5, a6, a7].drop (p.1.toNat + p.2.toNat))).bind fun y =>
      if x.size + y.size ≤ 9223372036854775000 then some (x ++ (⟨#[58, 58]⟩ : ByteArray) ++ y) else none
    else none
theorem ip_Text6.mono : ∀ a0 a1 a2 a3 a4 a5 a6 a7 k, LeO (ip_Text6.f k a0 a1 a2 a3 a4 a5 a6 a7) (ip_Text6.f (k + 1) a0 a1 a2 a3 a4 a5 a6 a7) := by
  intro a0 a1 a2 a3 a4 a5 a6 a7 k
  unfold ip_Text6.f
  exact LeO.bind (ip_gap.mono _ _ _ _ _ _ _ _ _) (fun p => LeO.ite (ip_hex.mono _ _) (LeO.ite (LeO.bind (ip_hex.mono _ _) (fun x => LeO.bind (ip_hex.mono _ _) (fun y => LeO.refl _))) (LeO.refl _)))
theorem ip_Text6.calls (k : Nat) (a0 : Int) (a1 : Int) (a2 : Int) (a3 : Int) (a4 : Int) (a5 : Int) (a6 : Int) (a7 : Int) (r : ByteArray) (w : World) (hG : GW w) (h : ip_Text6.f k a0 a1 a2 a3 a4 a5 a6 a7 = some r) :
    Calls Tryd.prog 16 #[.agg #[.int .u16 a0, .int .u16 a1, .int .u16 a2, .int .u16 a3, .int .u16 a4, .int .u16 a5, .int .u16 a6, .int .u16 a7]] w fun e w' => e = .returned (.string r) ∧ Below w.heap.size w w' := by
  unfold ip_Text6.f at h
  obtain ⟨⟨p1, p2⟩, h1, h⟩ := Option.bind_eq_some_iff.1 h
  simp only at h1 h
  by_cases c1 : p2 = 0
  · subst c1
    rw [if_pos rfl] at h
    exact ip_Text6_whole a0 a1 a2 a3 a4 a5 a6 a7 p1 r w (fun w => ip_gap.calls k a0 a1 a2 a3 a4 a5 a6 a7 p1 0 w h1) (fun A c w1 hb hC hc => ip_hex.calls k A c [a0, a1, a2, a3, a4, a5, a6, a7] r w1 hC hc (GW_to hG hb) h)
  · rw [if_neg c1] at h
    by_cases c2 : 0 ≤ p1 ∧ 0 ≤ p2 ∧ p1 + p2 ≤ 8
    · rw [if_pos c2] at h
      obtain ⟨x, hx, h⟩ := Option.bind_eq_some_iff.1 h
      obtain ⟨y, hy, h⟩ := Option.bind_eq_some_iff.1 h
      by_cases c3 : x.size + y.size ≤ 9223372036854775000
      · rw [if_pos c3] at h
        obtain rfl := Option.some.inj h
        obtain ⟨n1, rfl⟩ := Int.eq_ofNat_of_zero_le c2.1
        obtain ⟨n2, rfl⟩ := Int.eq_ofNat_of_zero_le c2.2.1
        rw [Int.toNat_natCast] at hx
        rw [Int.toNat_natCast, Int.toNat_natCast] at hy
        have hz : (x ++ (⟨#[58, 58]⟩ : ByteArray)).size = x.size + 2 := by rw [ByteArray.size_append]; rfl
        refine ip_Text6_gap a0 a1 a2 a3 a4 a5 a6 a7 n1 n2 (by omega) (by omega) x y (by omega) (by omega) (if n1 + n2 < 8 then n1 + n2 else 0) (by split <;> omega) w (fun w => ip_gap.calls k a0 a1 a2 a3 a4 a5 a6 a7 n1 n2 w h1) (fun A c w1 hb hC hc => ?_) (fun A c w1 hb hC hc => ?_)
        · have hl : ([a0, a1, a2, a3, a4, a5, a6, a7].take n1).length = n1 := by simp; omega
          have := ip_hex.calls k A c ([a0, a1, a2, a3, a4, a5, a6, a7].take n1) x w1 (by rw [hl]; exact hC) (by rw [hl]; exact hc) (GW_to hG hb) hx
          rw [hl] at this
          exact this
        · have hl : ([a0, a1, a2, a3, a4, a5, a6, a7].drop (n1 + n2)).length = 8 - (n1 + n2) := by simp
          have := ip_hex.calls k A c ([a0, a1, a2, a3, a4, a5, a6, a7].drop (n1 + n2)) y w1 (by rw [hl]; exact hC) (by rw [hl]; exact hc) (GW_to hG hb) hy
          rw [hl] at this
          exact this
      · rw [if_neg c3] at h; cases h
    · rw [if_neg c2] at h; cases h
def monikerlaw19_awake.f (k : Nat)  : Option (Bool) := (ip_V6.f k (⟨#[58, 58, 49]⟩ : ByteArray)).bind fun bt201 => (if bt201.2.2.2.2.2.2.2.2 = true then (if (bt201.1 == 0 && (bt201.2.1 == 0 && (bt201.2.2.1 == 0 && (bt201.2.2.2.1 == 0 && (bt201.2.2.2.2.1 == 0 && (bt201.2.2.2.2.2.1 == 0 && (bt201.2.2.2.2.2.2.1 == 0 && (bt201.2.2.2.2.2.2.2.1 == 1)))))))) = true then ((ip_Text6.f k 1 0 0 2 0 0 0 3).bind fun t211 => (if t211.toList = ([49, 58, 48, 58, 48, 58, 50, 58, 58, 51] : List UInt8) then ((ip_Host.f k false (⟨#[50, 53, 54, 46, 48, 46, 48, 46, 49]⟩ : ByteArray)).bind fun t212 => (some (t212 == 2))) else (some false))) else (some false)) else (some false))
theorem monikerlaw19_awake.mono : ∀ k, LeO (monikerlaw19_awake.f k ) (monikerlaw19_awake.f (k + 1) ) := by
  intro  k
  have m0 := @ip_Host.mono; have m1 := @ip_Text6.mono; have m2 := @ip_V6.mono
  unfold monikerlaw19_awake.f
  exact xmo
set_option maxHeartbeats 8000000 in
set_option maxRecDepth 100000 in
theorem monikerlaw19_awake.calls (k : Nat)  (r : Bool) (w : World) (hG : GW w) (h : monikerlaw19_awake.f k  = some r) :
    Calls Tryd.prog 7 #[] w fun e w' => e = .returned (.bool r) ∧ Below w.heap.size w w' := by
 have hu27 := Tryd.underlying27
 have HB := Aside0.mk (Below.refl w.heap.size w)
 have H : ((ip_V6.f k (⟨#[58, 58, 49]⟩ : ByteArray)).bind fun bt201 => (if bt201.2.2.2.2.2.2.2.2 = true then (if (bt201.1 == 0 && (bt201.2.1 == 0 && (bt201.2.2.1 == 0 && (bt201.2.2.2.1 == 0 && (bt201.2.2.2.2.1 == 0 && (bt201.2.2.2.2.2.1 == 0 && (bt201.2.2.2.2.2.2.1 == 0 && (bt201.2.2.2.2.2.2.2.1 == 1)))))))) = true then ((ip_Text6.f k 1 0 0 2 0 0 0 3).bind fun t211 => (if t211.toList = ([49, 58, 48, 58, 48, 58, 50, 58, 58, 51] : List UInt8) then ((ip_Host.f k false (⟨#[50, 53, 54, 46, 48, 46, 48, 46, 49]⟩ : ByteArray)).bind fun t212 => (some (t212 == 2))) else (some false))) else (some false)) else (some false))) = some r := h
 clear h
 replace H := Option.bind_eq_some_iff.mp H
 obtain ⟨⟨t201, t202, t203, t204, t205, t206, t207, t208, t209⟩, A10, H⟩ := H
 try dsimp only at H
 have A1 := Aside0.mk A10
 clear A10
 by_cases c2 : t209 = true
 ·
  subst c2
  rw [if_pos rfl] at H
  by_cases c3 : (t201 == 0 && (t202 == 0 && (t203 == 0 && (t204 == 0 && (t205 == 0 && (t206 == 0 && (t207 == 0 && (t208 == 1)))))))) = true
  ·
   rw [if_pos c3] at H
   have c3b0 : (t201 == 0 && (t202 == 0 && (t203 == 0 && (t204 == 0 && (t205 == 0 && (t206 == 0 && (t207 == 0 && (t208 == 1)))))))) = true := c3
   (try (have c3b1 : decide (t201 = 0 && (t202 == 0 && (t203 == 0 && (t204 == 0 && (t205 == 0 && (t206 == 0 && (t207 == 0 && (t208 == 1)))))))) = true := by simpa using c3))
   (try (have c3b2 : (t201 == 0 && (t202 == 0 && (t203 == 0 && (t204 == 0 && (t205 == 0 && (t206 == 0 && (t207 == 0 && (t208 == 1)))))))) = true := by simpa using c3))
   clear c3
   replace H := Option.bind_eq_some_iff.mp H
   obtain ⟨t211, A40, H⟩ := H
   try dsimp only at H
   have A4 := Aside0.mk A40
   clear A40
   by_cases c5 : t211.toList = ([49, 58, 48, 58, 48, 58, 50, 58, 58, 51] : List UInt8)
   ·
    rw [if_pos c5] at H
    have c5b0 : (t211.toList == ([49, 58, 48, 58, 48, 58, 50, 58, 58, 51] : List UInt8)) = true := beq_iff_eq.mpr c5
    have c5b1 : (t211.toList != ([49, 58, 48, 58, 48, 58, 50, 58, 58, 51] : List UInt8)) = false := bne_eq_false_iff_eq.mpr c5
    clear c5
    replace H := Option.bind_eq_some_iff.mp H
    obtain ⟨t212, A60, H⟩ := H
    try dsimp only at H
    have A6 := Aside0.mk A60
    clear A60
    obtain rfl := Option.some.inj H
    go_enter Tryd.func7, Tryd.ntmps7
    go_wp2_with (first | ((with_reducible refine gate_callee (f := 9) rfl ?_); refine xgl 4 Tryd.func9 #[.string (⟨#[58, 58, 49]⟩ : ByteArray)] ?_; (with_reducible refine (ip_V6.calls k (⟨#[58, 58, 49]⟩ : ByteArray) t201 t202 t203 t204 t205 t206 t207 t208 true _ ?side1 A1.out).mono ?_); (case side1 => first | (with_reducible exact hG) | exact GW_to hG xbl); rintro e w7 ⟨rfl, hb⟩; refine ⟨_, rfl, ?_⟩; replace HB := xst hb; (try clear hb)) | ((with_reducible refine gate_dst (N := 1) rfl ?_); refine xev 1 #[.int .u16 0, .int .u16 0, .int .u16 0, .int .u16 0, .int .u16 0, .int .u16 0, .int .u16 0, .int .u16 0] 27 ?_; intro gb210 hg w8 hbox hb; have BK210 := Aside0.mk (hbox); have GW210 := xsz hg; have GE210 := GW210; replace HB := xst hb; clear hb hbox hg; obtain ⟨hcz9_0, hcz9_1, hcz9_2, hcz9_3, hcz9_4, hcz9_5, hcz9_6, hcz9_7⟩ := xc8 BK210; have hfz9_0 := xf BK210 0; have hfz9_1 := xf BK210 1; have hfz9_2 := xf BK210 2; have hfz9_3 := xf BK210 3; have hfz9_4 := xf BK210 4; have hfz9_5 := xf BK210 5; have hfz9_6 := xf BK210 6; have hfz9_7 := xf BK210 7) | (go_at_call 16; (with_reducible refine (ip_Text6.calls k 1 0 0 2 0 0 0 3 t211 _ ?side1 A4.out).mono ?_); (case side1 => first | (with_reducible exact hG) | exact GW_to hG xbl); rintro e w10 ⟨rfl, hb⟩; replace BK210 := xbb (g := gb210) (o := .cells #[.int .u16 t201, .int .u16 t202, .int .u16 t203, .int .u16 t204, .int .u16 t205, .int .u16 t206, .int .u16 t207, .int .u16 t208] 27 (0, 0)) hb; replace HB := xst hb; (try clear hb)) | (go_at_call 14; (with_reducible refine (ip_Host.calls k false (⟨#[50, 53, 54, 46, 48, 46, 48, 46, 49]⟩ : ByteArray) t212 _ ?side1 A6.out).mono ?_); (case side1 => first | (with_reducible exact hG) | exact GW_to hG xbl); rintro e w11 ⟨rfl, hb⟩; replace BK210 := xbb (g := gb210) (o := .cells #[.int .u16 t201, .int .u16 t202, .int .u16 t203, .int .u16 t204, .int .u16 t205, .int .u16 t206, .int .u16 t207, .int .u16 t208] 27 (0, 0)) hb; replace HB := xst hb; (try clear hb)))
    go_ret
    exact ⟨xre, xbl⟩
   ·
    rw [if_neg c5] at H
    have c5b0 : (t211.toList == ([49, 58, 48, 58, 48, 58, 50, 58, 58, 51] : List UInt8)) = false := beq_eq_false_iff_ne.mpr c5
    have c5b1 : (t211.toList != ([49, 58, 48, 58, 48, 58, 50, 58, 58, 51] : List UInt8)) = true := bne_iff_ne.mpr c5
    obtain rfl := Option.some.inj H
    go_enter Tryd.func7, Tryd.ntmps7
    go_wp2_with (first | ((with_reducible refine gate_callee (f := 9) rfl ?_); refine xgl 4 Tryd.func9 #[.string (⟨#[58, 58, 49]⟩ : ByteArray)] ?_; (with_reducible refine (ip_V6.calls k (⟨#[58, 58, 49]⟩ : ByteArray) t201 t202 t203 t204 t205 t206 t207 t208 true _ ?side1 A1.out).mono ?_); (case side1 => first | (with_reducible exact hG) | exact GW_to hG xbl); rintro e w12 ⟨rfl, hb⟩; refine ⟨_, rfl, ?_⟩; replace HB := xst hb; (try clear hb)) | ((with_reducible refine gate_dst (N := 1) rfl ?_); refine xev 1 #[.int .u16 0, .int .u16 0, .int .u16 0, .int .u16 0, .int .u16 0, .int .u16 0, .int .u16 0, .int .u16 0] 27 ?_; intro gb210 hg w13 hbox hb; have BK210 := Aside0.mk (hbox); have GW210 := xsz hg; have GE210 := GW210; replace HB := xst hb; clear hb hbox hg; obtain ⟨hcz14_0, hcz14_1, hcz14_2, hcz14_3, hcz14_4, hcz14_5, hcz14_6, hcz14_7⟩ := xc8 BK210; have hfz14_0 := xf BK210 0; have hfz14_1 := xf BK210 1; have hfz14_2 := xf BK210 2; have hfz14_3 := xf BK210 3; have hfz14_4 := xf BK210 4; have hfz14_5 := xf BK210 5; have hfz14_6 := xf BK210 6; have hfz14_7 := xf BK210 7) | (go_at_call 16; (with_reducible refine (ip_Text6.calls k 1 0 0 2 0 0 0 3 t211 _ ?side1 A4.out).mono ?_); (case side1 => first | (with_reducible exact hG) | exact GW_to hG xbl); rintro e w15 ⟨rfl, hb⟩; replace BK210 := xbb (g := gb210) (o := .cells #[.int .u16 t201, .int .u16 t202, .int .u16 t203, .int .u16 t204, .int .u16 t205, .int .u16 t206, .int .u16 t207, .int .u16 t208] 27 (0, 0)) hb; replace HB := xst hb; (try clear hb)))
    go_ret
    exact ⟨xre, xbl⟩
  ·
   rw [if_neg c3] at H
   have c3b0 : (t201 == 0 && (t202 == 0 && (t203 == 0 && (t204 == 0 && (t205 == 0 && (t206 == 0 && (t207 == 0 && (t208 == 1)))))))) = false := by simpa using c3
   (try (have c3b1 : decide (t201 = 0 && (t202 == 0 && (t203 == 0 && (t204 == 0 && (t205 == 0 && (t206 == 0 && (t207 == 0 && (t208 == 1)))))))) = false := by simpa using c3))
   (try (have c3b2 : (t201 == 0 && (t202 == 0 && (t203 == 0 && (t204 == 0 && (t205 == 0 && (t206 == 0 && (t207 == 0 && (t208 == 1)))))))) = false := by simpa using c3))
   (try (have c3b3 : ¬ (t201 = 0 && (t202 == 0 && (t203 == 0 && (t204 == 0 && (t205 == 0 && (t206 == 0 && (t207 == 0 && (t208 == 1)))))))) := by simpa using c3))
   clear c3
   obtain rfl := Option.some.inj H
   go_enter Tryd.func7, Tryd.ntmps7
   go_wp2_with (first | ((with_reducible refine gate_callee (f := 9) rfl ?_); refine xgl 4 Tryd.func9 #[.string (⟨#[58, 58, 49]⟩ : ByteArray)] ?_; (with_reducible refine (ip_V6.calls k (⟨#[58, 58, 49]⟩ : ByteArray) t201 t202 t203 t204 t205 t206 t207 t208 true _ ?side1 A1.out).mono ?_); (case side1 => first | (with_reducible exact hG) | exact GW_to hG xbl); rintro e w16 ⟨rfl, hb⟩; refine ⟨_, rfl, ?_⟩; replace HB := xst hb; (try clear hb)) | ((with_reducible refine gate_dst (N := 1) rfl ?_); refine xev 1 #[.int .u16 0, .int .u16 0, .int .u16 0, .int .u16 0, .int .u16 0, .int .u16 0, .int .u16 0, .int .u16 0] 27 ?_; intro gb210 hg w17 hbox hb; have BK210 := Aside0.mk (hbox); have GW210 := xsz hg; have GE210 := GW210; replace HB := xst hb; clear hb hbox hg; obtain ⟨hcz18_0, hcz18_1, hcz18_2, hcz18_3, hcz18_4, hcz18_5, hcz18_6, hcz18_7⟩ := xc8 BK210; have hfz18_0 := xf BK210 0; have hfz18_1 := xf BK210 1; have hfz18_2 := xf BK210 2; have hfz18_3 := xf BK210 3; have hfz18_4 := xf BK210 4; have hfz18_5 := xf BK210 5; have hfz18_6 := xf BK210 6; have hfz18_7 := xf BK210 7))
   go_ret
   exact ⟨xre, xbl⟩
 ·
  replace c2 := Bool.eq_false_iff.mpr c2
  subst c2
  rw [if_neg (show ¬ (false = true) by decide)] at H
  obtain rfl := Option.some.inj H
  go_enter Tryd.func7, Tryd.ntmps7
  go_wp2_with (first | ((with_reducible refine gate_callee (f := 9) rfl ?_); refine xgl 4 Tryd.func9 #[.string (⟨#[58, 58, 49]⟩ : ByteArray)] ?_; (with_reducible refine (ip_V6.calls k (⟨#[58, 58, 49]⟩ : ByteArray) t201 t202 t203 t204 t205 t206 t207 t208 false _ ?side1 A1.out).mono ?_); (case side1 => first | (with_reducible exact hG) | exact GW_to hG xbl); rintro e w19 ⟨rfl, hb⟩; refine ⟨_, rfl, ?_⟩; replace HB := xst hb; (try clear hb)) | ((with_reducible refine gate_dst (N := 1) rfl ?_); refine xev 1 #[.int .u16 0, .int .u16 0, .int .u16 0, .int .u16 0, .int .u16 0, .int .u16 0, .int .u16 0, .int .u16 0] 27 ?_; intro gb210 hg w20 hbox hb; have BK210 := Aside0.mk (hbox); have GW210 := xsz hg; have GE210 := GW210; replace HB := xst hb; clear hb hbox hg; obtain ⟨hcz21_0, hcz21_1, hcz21_2, hcz21_3, hcz21_4, hcz21_5, hcz21_6, hcz21_7⟩ := xc8 BK210; have hfz21_0 := xf BK210 0; have hfz21_1 := xf BK210 1; have hfz21_2 := xf BK210 2; have hfz21_3 := xf BK210 3; have hfz21_4 := xf BK210 4; have hfz21_5 := xf BK210 5; have hfz21_6 := xf BK210 6; have hfz21_7 := xf BK210 7))
  go_ret
  exact ⟨xre, xbl⟩
def monikerref19_Digits.f : Nat → Int → Option (ByteArray)
  | 0, _ => none
  | k + 1, a0 => if a0 < 10 then (if 0 ≤ a0 then (if a0 ≤ (wrap64 (a0 + 1)) then (if (wrap64 (a0 + 1)) ≤ 10 then (some ((⟨#[48, 49, 50, 51, 52, 53, 54, 55, 56, 57]⟩ : ByteArray).extract (a0 : Int).toNat ((wrap64 (a0 + 1)) : Int).toNat)) else (none)) else (none)) else (none)) else ((monikerref19_Digits.f k (wrap64 (Int.tdiv a0 10))).bind fun t213 => (if 0 ≤ (Int.tmod a0 10) then (if (Int.tmod a0 10) ≤ (wrap64 ((Int.tmod a0 10) + 1)) then (if (wrap64 ((Int.tmod a0 10) + 1)) ≤ 10 then (if t213.size + ((⟨#[48, 49, 50, 51, 52, 53, 54, 55, 56, 57]⟩ : ByteArray).extract ((Int.tmod a0 10) : Int).toNat ((wrap64 ((Int.tmod a0 10) + 1)) : Int).toNat).size ≤ 9223372036854775807 then (some (t213 ++ ((⟨#[48, 49, 50, 51, 52, 53, 54, 55, 56, 57]⟩ : ByteArray).extract ((Int.tmod a0 10) : Int).toNat ((wrap64 ((Int.tmod a0 10) + 1)) : Int).toNat))) else (none)) else (none)) else (none)) else (none)))
theorem monikerref19_Digits.mono_l : ∀ k, (∀ y0, LeO (monikerref19_Digits.f k y0) (monikerref19_Digits.f (k + 1) y0))
  | 0 => fun _ r h => by simp [monikerref19_Digits.f] at h
  | k + 1 => by
    have ih0 := monikerref19_Digits.mono_l k
    · intro y0
      unfold monikerref19_Digits.f
      exact xmo
theorem monikerref19_Digits.mono : ∀ a0 k, LeO (monikerref19_Digits.f k a0) (monikerref19_Digits.f (k + 1) a0) := by
  intro a0 k
  have ih0 := monikerref19_Digits.mono_l k
  exact ih0 a0
def monikerref19_Digits.T4 : Bool × List (List Nat × List Nat) := (true, [([], []), ([0], [0]), ([1], [1]), ([], []), ([], []), ([4], [4]), ([], []), ([6], [6]), ([7], [7]), ([3, 5, 8], [3, 5, 8]), ([2, 9], [2, 9]), ([10, 2, 0, 1, 2, 3, 4, 5, 6, 7, 8, 9, 10], [10])])
def monikerref19_Digits.B4 : List Nat := [0, 1, 3, 0, 0, 16, 0, 64, 192, 504, 1023, 2047]
theorem monikerref19_Digits.tab4 : rtab .any (opsOf Tryd.f18 4) = monikerref19_Digits.T4 := by kernel_rfl
theorem monikerref19_Digits.bits4 : waitsOk monikerref19_Digits.T4.2 monikerref19_Digits.B4 = true := by kernel_rfl
set_option maxHeartbeats 8000000 in
set_option maxRecDepth 100000 in
theorem monikerref19_Digits.calls (k : Nat) : ∀ (a0 : Int) (r : ByteArray) (w : World) (h : monikerref19_Digits.f k a0 = some r),
    Calls Tryd.prog 18 #[.int .i64 a0] w fun e w' => e = .returned (.string r) ∧ Below w.heap.size w w' := by
 induction k using Nat.strongRecOn with
 | _ k ih =>
 intro a0 r w h
 cases k with
 | zero => exact absurd h (by simp [monikerref19_Digits.f])
 | succ k =>
 simp only [monikerref19_Digits.f] at h
 have HB := Aside0.mk (Below.refl w.heap.size w)
 have H : (if a0 < 10 then (if 0 ≤ a0 then (if a0 ≤ (wrap64 (a0 + 1)) then (if (wrap64 (a0 + 1)) ≤ 10 then (some ((⟨#[48, 49, 50, 51, 52, 53, 54, 55, 56, 57]⟩ : ByteArray).extract (a0 : Int).toNat ((wrap64 (a0 + 1)) : Int).toNat)) else (none)) else (none)) else (none)) else ((monikerref19_Digits.f k (wrap64 (Int.tdiv a0 10))).bind fun t213 => (if 0 ≤ (Int.tmod a0 10) then (if (Int.tmod a0 10) ≤ (wrap64 ((Int.tmod a0 10) + 1)) then (if (wrap64 ((Int.tmod a0 10) + 1)) ≤ 10 then (if t213.size + ((⟨#[48, 49, 50, 51, 52, 53, 54, 55, 56, 57]⟩ : ByteArray).extract ((Int.tmod a0 10) : Int).toNat ((wrap64 ((Int.tmod a0 10) + 1)) : Int).toNat).size ≤ 9223372036854775807 then (some (t213 ++ ((⟨#[48, 49, 50, 51, 52, 53, 54, 55, 56, 57]⟩ : ByteArray).extract ((Int.tmod a0 10) : Int).toNat ((wrap64 ((Int.tmod a0 10) + 1)) : Int).toNat))) else (none)) else (none)) else (none)) else (none)))) = some r := h
 clear h
 by_cases c2 : a0 < 10
 ·
  rw [if_pos c2] at H
  have c2b0 := decide_eq_true c2
  clear c2
  by_cases c3 : 0 ≤ a0
  ·
   rw [if_pos c3] at H
   have c3b0 := eq_true c3
   have c3b1 := decide_eq_true c3
   clear c3
   obtain ⟨ji4, hji4⟩ : ∃ j_ : Int, (wrap64 (a0 + 1)) = j_ := ⟨_, rfl⟩
   first | rw [hji4] at H | simp only [hji4] at H | skip
   have hji4w : (IntKind.i64.wrap (a0 + 1)) = ji4 := (i64_w _).trans hji4
   by_cases c5 : a0 ≤ (ji4)
   ·
    rw [if_pos c5] at H
    have c5b0 := eq_true c5
    have c5b1 := decide_eq_true c5
    clear c5
    by_cases c6 : (ji4) ≤ 10
    ·
     rw [if_pos c6] at H
     have c6b0 := eq_true c6
     have c6b1 := decide_eq_true c6
     clear c6
     obtain ⟨ji7, hji7⟩ : ∃ j_ : ByteArray, ((⟨#[48, 49, 50, 51, 52, 53, 54, 55, 56, 57]⟩ : ByteArray).extract (a0 : Int).toNat ((ji4) : Int).toNat) = j_ := ⟨_, rfl⟩
     try (have hji7x := hji7; simp only [Int.toNat_natCast, Int.toNat_ofNat] at hji7x)
     first | rw [hji7] at H | simp only [hji7] at H | skip
     obtain rfl := Option.some.inj H
     go_enter Tryd.func18, Tryd.ntmps18
     go_wp2
     go_ret
     exact ⟨by first | rfl | (simp [errW_none, errW_some] <;> first | rfl | (simp only [xp_isEmpty, bne, Bool.not_not]; done)) | (simp only [← hji4, ← hji7]; first | rfl | (simp [errW_none, errW_some] <;> rfl)) | (simp [*, errW_none, errW_some] <;> rfl), xbl⟩
    ·
     rw [if_neg c6] at H
     exact absurd H (by simp)
   ·
    rw [if_neg c5] at H
    exact absurd H (by simp)
  ·
   rw [if_neg c3] at H
   exact absurd H (by simp)
 ·
  rw [if_neg c2] at H
  have c2b0 := decide_eq_false c2
  clear c2
  replace H := Option.bind_eq_some_iff.mp H
  obtain ⟨t213, A80, H⟩ := H
  try dsimp only at H
  have A8 := Aside0.mk A80
  clear A80
  obtain ⟨ji9, hji9⟩ : ∃ j_ : Int, (Int.tmod a0 10) = j_ := ⟨_, rfl⟩
  first | rw [hji9] at H | simp only [hji9] at H | skip
  (try rw [hji9] at A8)
  by_cases c10 : 0 ≤ (ji9)
  ·
   rw [if_pos c10] at H
   have c10b0 := eq_true c10
   have c10b1 := decide_eq_true c10
   clear c10
   obtain ⟨ji11, hji11⟩ : ∃ j_ : Int, (wrap64 ((ji9) + 1)) = j_ := ⟨_, rfl⟩
   first | rw [hji11] at H | simp only [hji11] at H | skip
   (try rw [hji11] at A8)
   have hji11w : (IntKind.i64.wrap ((ji9) + 1)) = ji11 := (i64_w _).trans hji11
   by_cases c12 : (ji9) ≤ (ji11)
   ·
    rw [if_pos c12] at H
    have c12b0 := eq_true c12
    have c12b1 := decide_eq_true c12
    clear c12
    by_cases c13 : (ji11) ≤ 10
    ·
     rw [if_pos c13] at H
     have c13b0 := eq_true c13
     have c13b1 := decide_eq_true c13
     clear c13
     obtain ⟨ji14, hji14⟩ : ∃ j_ : ByteArray, ((⟨#[48, 49, 50, 51, 52, 53, 54, 55, 56, 57]⟩ : ByteArray).extract ((ji9) : Int).toNat ((ji11) : Int).toNat) = j_ := ⟨_, rfl⟩
     try (have hji14x := hji14; simp only [Int.toNat_natCast, Int.toNat_ofNat] at hji14x)
     first | rw [hji14] at H | simp only [hji14] at H | skip
     (try rw [hji14] at A8)
     by_cases c15 : t213.size + (ji14).size ≤ 9223372036854775807
     ·
      rw [if_pos c15] at H
      have c15b0 := eq_true c15
      have c15b1 := decide_eq_true c15
      try have c15b2 : (9223372036854775807 < t213.size + (ji14).size) = False := eq_false (Nat.not_lt.2 c15)
      obtain rfl := Option.some.inj H
      go_enter Tryd.func18, Tryd.ntmps18
      try go_wp2
      have n0_ := Aside0.mk (below_drew1 HB.out)
      clear HB
      have HB := n0_
      clear n0_
      refine start_ (n := 12) (S := fun w' => True) (ds := []) #[false, false, false, false, false, false, false, false, false, false, false, false] (by kernel_rfl) rfl rfl trivial (fun hHeld => ?_); refine with_tabW monikerref19_Digits.tab4 monikerref19_Digits.bits4 (fun HT_ HW_ => ?_)
      generalize w.drew = w16 at HB hHeld ⊢
      refine pure_ (i := 0) (N := some 11) (v := ?_) (a' := ?_) #[true, false, false, false, false, false, false, false, false, false, false, false] rfl rfl (any_of HT_.out (by kernel_rfl)) (fun _ _ _ h => h) (Or.inl ⟨by rfl, ?_⟩) ?_ ?_
      rotate_left
      ·
       intro w'
       go_simp
       with_reducible rfl
      rotate_left
      ·
       simp only [Act.put, List.setIfInBounds_toArray, List.set_cons_zero, List.set_cons_succ, i64_w, i32_w]
       rfl
      refine pure_ (i := 1) (N := some 12) (v := ?_) (a' := ?_) #[true, true, false, false, false, false, false, false, false, false, false, false] rfl rfl (any_of HT_.out (by kernel_rfl)) (fun _ _ _ h => h) (Or.inl ⟨by rfl, ?_⟩) ?_ ?_
      rotate_left
      ·
       intro w'
       go_simp
       with_reducible rfl
      rotate_left
      ·
       simp only [Act.put, List.setIfInBounds_toArray, List.set_cons_zero, List.set_cons_succ, i64_w, i32_w]
       rfl
      refine pure_ (i := 3) (N := some 14) (v := ?_) (a' := ?_) #[true, true, false, true, false, false, false, false, false, false, false, false] rfl rfl (any_of HT_.out (by kernel_rfl)) (fun _ _ _ h => h) (Or.inl ⟨by rfl, ?_⟩) ?_ ?_
      rotate_left
      ·
       intro w'
       go_simp
       with_reducible rfl
      rotate_left
      ·
       simp only [Act.put, List.setIfInBounds_toArray, List.set_cons_zero, List.set_cons_succ, i64_w, i32_w]
       rfl
      refine pure_ (i := 4) (N := some 15) (v := ?_) (a' := ?_) #[true, true, false, true, true, false, false, false, false, false, false, false] rfl rfl (any_of HT_.out (by kernel_rfl)) (fun _ _ _ h => h) (Or.inl ⟨by rfl, ?_⟩) ?_ ?_
      rotate_left
      ·
       intro w'
       go_simp
       with_reducible rfl
      rotate_left
      ·
       simp only [Act.put, List.setIfInBounds_toArray, List.set_cons_zero, List.set_cons_succ, i64_w, i32_w]
       rfl
      refine pure_ (i := 5) (N := some 16) (v := ?_) (a' := ?_) #[true, true, false, true, true, true, false, false, false, false, false, false] rfl rfl (any_of HT_.out (by kernel_rfl)) (fun _ _ _ h => h) (Or.inl ⟨by rfl, ?_⟩) ?_ ?_
      rotate_left
      ·
       intro w'
       go_simp
       with_reducible rfl
      rotate_left
      ·
       simp only [Act.put, List.setIfInBounds_toArray, List.set_cons_zero, List.set_cons_succ, i64_w, i32_w]
       rfl
      refine pure_ (i := 6) (N := some 17) (v := ?_) (a' := ?_) #[true, true, false, true, true, true, true, false, false, false, false, false] rfl rfl (any_of HT_.out (by kernel_rfl)) (fun _ _ _ h => h) (Or.inl ⟨by rfl, ?_⟩) ?_ ?_
      rotate_left
      ·
       intro w'
       go_simp
       with_reducible rfl
      rotate_left
      ·
       simp only [Act.put, List.setIfInBounds_toArray, List.set_cons_zero, List.set_cons_succ, i64_w, i32_w]
       rfl
      refine pure_ (i := 7) (N := some 18) (v := ?_) (a' := ?_) #[true, true, false, true, true, true, true, true, false, false, false, false] rfl rfl (any_of HT_.out (by kernel_rfl)) (fun _ _ _ h => h) (Or.inl ⟨by rfl, ?_⟩) ?_ ?_
      rotate_left
      ·
       intro w'
       go_simp
       with_reducible rfl
      rotate_left
      ·
       simp only [Act.put, List.setIfInBounds_toArray, List.set_cons_zero, List.set_cons_succ, i64_w, i32_w]
       rfl
      refine pure_ (i := 8) (N := some 19) (v := ?_) (a' := ?_) #[true, true, false, true, true, true, true, true, true, false, false, false] rfl rfl (any_of HT_.out (by kernel_rfl)) (fun _ _ _ h => h) (Or.inl ⟨by rfl, ?_⟩) ?_ ?_
      rotate_left
      ·
       intro w'
       go_simp
       with_reducible rfl
      rotate_left
      ·
       simp only [Act.put, List.setIfInBounds_toArray, List.set_cons_zero, List.set_cons_succ, i64_w, i32_w]
       rfl
      refine pure_ (i := 9) (N := some 20) (v := ?_) (a' := ?_) #[true, true, false, true, true, true, true, true, true, true, false, false] rfl rfl (any_of HT_.out (by kernel_rfl)) (fun _ _ _ h => h) (Or.inl ⟨by rfl, ?_⟩) ?_ ?_
      rotate_left
      ·
       intro w'
       go_simp
       with_reducible rfl
      rotate_left
      ·
       simp only [Act.put, List.setIfInBounds_toArray, List.set_cons_zero, List.set_cons_succ, i64_w, i32_w]
       rfl
      refine one_ (i := 2) (N := some 13) #[true, true, true, true, true, true, true, true, true, true, false, false] rfl rfl (one_of HT_.out (by kernel_rfl)) (by decide) (fun K hK => ?_)
      refine goes_ Tryd.func18 (by kernel_rfl) rfl #[.int .i64 (wrap64 (Int.tdiv a0 10))] (by rfl) rfl rfl (by (try simp only [List.map_toArray, List.map_cons, List.map_nil]); first | done | rfl | (simp only [List.length_drop, List.length_take]; rfl)) ?_
      with_reducible refine (ih k (by omega) (wrap64 (Int.tdiv a0 10)) t213 _ A8.out).mono ?_
      rintro e w17 ⟨rfl, hb⟩
      refine ⟨_, rfl, ?_⟩
      have n0_ := xst hb
      clear HB
      have HB := n0_
      clear n0_
      (try clear hb)
      (try clear hb2)
      (try clear hk)
      (try clear hi)
      refine hK.out _ _ trivial (fun hHeld => ?_)
      clear hK K
      refine norm_ (a' := ?_) ?_ ?_
      rotate_left
      ·
       show Act.put _ (some 13) _ = _
       simp only [Act.put, List.setIfInBounds_toArray, List.set_cons_zero, List.set_cons_succ, i64_w, i32_w]
       rfl
      refine pure_ (i := 10) (N := some 21) (v := ?_) (a' := ?_) #[true, true, true, true, true, true, true, true, true, true, true, false] rfl rfl (any_of HT_.out (by kernel_rfl)) (fun _ _ _ h => h) (Or.inl ⟨by rfl, ?_⟩) ?_ ?_
      rotate_left
      ·
       intro w'
       go_simp
       with_reducible rfl
      rotate_left
      ·
       simp only [Act.put, List.setIfInBounds_toArray, List.set_cons_zero, List.set_cons_succ, i64_w, i32_w]
       rfl
      refine pure_ (i := 11) (N := some 2) (v := ?_) (a' := ?_) #[true, true, true, true, true, true, true, true, true, true, true, true] rfl rfl (any_of HT_.out (by kernel_rfl)) (fun _ _ _ h => h) (Or.inl ⟨by rfl, ?_⟩) ?_ ?_
      rotate_left
      ·
       intro w'
       go_simp
       with_reducible rfl
      rotate_left
      ·
       simp only [Act.put, List.setIfInBounds_toArray, List.set_cons_zero, List.set_cons_succ, i64_w, i32_w]
       rfl
      refine done_ (done_of HT_.out (by kernel_rfl)) ?_
      try go_wp2
      go_ret
      exact ⟨by first | rfl | (simp [errW_none, errW_some] <;> first | rfl | (simp only [xp_isEmpty, bne, Bool.not_not]; done)) | (simp only [← hji9, ← hji11, ← hji14]; first | rfl | (simp [errW_none, errW_some] <;> rfl)) | (simp [*, errW_none, errW_some] <;> rfl), xbl⟩
     ·
      rw [if_neg c15] at H
      exact absurd H (by simp)
    ·
     rw [if_neg c13] at H
     exact absurd H (by simp)
   ·
    rw [if_neg c12] at H
    exact absurd H (by simp)
  ·
   rw [if_neg c10] at H
   exact absurd H (by simp)
end Go.Proofs.YticohlbfolnmpaaDoor.X
