/- The law SeatOne of layer 21, for every input: Any text, and whether an IRI is asked for: an authority has parts that are right in one way at most, and Parse tells that one. No condition beside the row's own. -/
import Derived.Test.YtdmigmccfdhdiaaDoorZSeatOne1
import Derived.Test.YtdmigmccfdhdiaaDoorZSeatOne3
import Derived.Test.YtdmigmccfdhdiaaDoorZSeatOne8
import Derived.Test.YtdmigmccfdhdiaaDoorZSeatOne14
import Derived.Test.YtdmigmccfdhdiaaDoorZSeatOne15
import Derived.Test.YtdmigmccfdhdiaaDoorZSeatOne16
import Derived.Test.YtdmigmccfdhdiaaDoorZSeatOne18
import Derived.Test.YtdmigmccfdhdiaaDoorRows
import Derived.Test.YtdmigmccfdhdiaaDoorCards
import Derived.Test.YtdmigmccfdhdiaaDoorTie
import Derived.WalkKit
import Derived.ProofKit
import Derived.OpenShut
import Derived.ShutString
import Derived.ChangeOld
import Derived.Below
import Derived.SizedLaws
import Derived.ChangeArms
import Derived.Lib.SmallJoins
import Derived.Deep.DeepHandedRow
import Derived.Lib.LaidTab
import Derived.Shelf.Vars
namespace Go.Proofs.YtdmigmccfdhdiaaDoor.X
open Go.RowKit Go.Proofs.YtdmigmccfdhdiaaDoorW.PrintWords Go.Proofs.YtdmigmccfdhdiaaDoorW.PrintLast Go.Proofs.YtdmigmccfdhdiaaDoorW.PrintMore
attribute [local go_sem] max2_int min2_int max_two min_two max_three min_three max_four min_four
set_option linter.unusedVariables false
set_option linter.unusedSimpArgs false
def seat_Join.f (a0_0 : Bool) (a0_1 : ByteArray) (a0_2 : ByteArray) (a0_3 : Bool) (a0_4 : ByteArray) : Option (ByteArray) := if a0_0 = true then (if a0_1.size + 1 ≤ 9223372036854775807 then (if (a0_1 ++ (⟨#[64]⟩ : ByteArray)).size + a0_2.size ≤ 9223372036854775807 then (if a0_3 = true then (if 1 + a0_4.size ≤ 9223372036854775807 then (if ((a0_1 ++ (⟨#[64]⟩ : ByteArray)) ++ a0_2).size + ((⟨#[58]⟩ : ByteArray) ++ a0_4).size ≤ 9223372036854775807 then (some (((a0_1 ++ (⟨#[64]⟩ : ByteArray)) ++ a0_2) ++ ((⟨#[58]⟩ : ByteArray) ++ a0_4))) else (none)) else (none)) else (some ((a0_1 ++ (⟨#[64]⟩ : ByteArray)) ++ a0_2))) else (none)) else (none)) else (if a0_3 = true then (if 1 + a0_4.size ≤ 9223372036854775807 then (if a0_2.size + ((⟨#[58]⟩ : ByteArray) ++ a0_4).size ≤ 9223372036854775807 then (some (a0_2 ++ ((⟨#[58]⟩ : ByteArray) ++ a0_4))) else (none)) else (none)) else (some a0_2))
set_option maxHeartbeats 8000000 in
set_option maxRecDepth 100000 in
theorem seat_Join.calls (a0_0 : Bool) (a0_1 : ByteArray) (a0_2 : ByteArray) (a0_3 : Bool) (a0_4 : ByteArray) (r : ByteArray) (w : World) (h : seat_Join.f a0_0 a0_1 a0_2 a0_3 a0_4 = some r) :
    Calls Tryd.prog 10 #[.agg #[.bool a0_0, .string a0_1, .string a0_2, .bool a0_3, .string a0_4]] w fun e w' => e = .returned (.string r) ∧ Below w.heap.size w w' := by
 have hu24 := Tryd.underlying24
 have HB := Aside0.mk (Below.refl w.heap.size w)
 have H : (if a0_0 = true then (if a0_1.size + 1 ≤ 9223372036854775807 then (if (a0_1 ++ (⟨#[64]⟩ : ByteArray)).size + a0_2.size ≤ 9223372036854775807 then (if a0_3 = true then (if 1 + a0_4.size ≤ 9223372036854775807 then (if ((a0_1 ++ (⟨#[64]⟩ : ByteArray)) ++ a0_2).size + ((⟨#[58]⟩ : ByteArray) ++ a0_4).size ≤ 9223372036854775807 then (some (((a0_1 ++ (⟨#[64]⟩ : ByteArray)) ++ a0_2) ++ ((⟨#[58]⟩ : ByteArray) ++ a0_4))) else (none)) else (none)) else (some ((a0_1 ++ (⟨#[64]⟩ : ByteArray)) ++ a0_2))) else (none)) else (none)) else (if a0_3 = true then (if 1 + a0_4.size ≤ 9223372036854775807 then (if a0_2.size + ((⟨#[58]⟩ : ByteArray) ++ a0_4).size ≤ 9223372036854775807 then (some (a0_2 ++ ((⟨#[58]⟩ : ByteArray) ++ a0_4))) else (none)) else (none)) else (some a0_2))) = some r := h
 clear h
 by_cases c2 : a0_0 = true
 ·
  subst c2
  rw [if_pos rfl] at H
  by_cases c3 : a0_1.size + 1 ≤ 9223372036854775807
  ·
   rw [if_pos c3] at H
   have c3b0 := eq_true c3
   have c3b1 := decide_eq_true c3
   try have c3b2 : (9223372036854775807 < a0_1.size + 1) = False := eq_false (Nat.not_lt.2 c3)
   by_cases c4 : (a0_1 ++ (⟨#[64]⟩ : ByteArray)).size + a0_2.size ≤ 9223372036854775807
   ·
    rw [if_pos c4] at H
    have c4b0 := eq_true c4
    have c4b1 := decide_eq_true c4
    try have c4b2 : (9223372036854775807 < (a0_1 ++ (⟨#[64]⟩ : ByteArray)).size + a0_2.size) = False := eq_false (Nat.not_lt.2 c4)
    by_cases c5 : a0_3 = true
    ·
     subst c5
     rw [if_pos rfl] at H
     by_cases c6 : 1 + a0_4.size ≤ 9223372036854775807
     ·
      rw [if_pos c6] at H
      have c6b0 := eq_true c6
      have c6b1 := decide_eq_true c6
      try have c6b2 : (9223372036854775807 < 1 + a0_4.size) = False := eq_false (Nat.not_lt.2 c6)
      by_cases c7 : ((a0_1 ++ (⟨#[64]⟩ : ByteArray)) ++ a0_2).size + ((⟨#[58]⟩ : ByteArray) ++ a0_4).size ≤ 9223372036854775807
      ·
       rw [if_pos c7] at H
       have c7b0 := eq_true c7
       have c7b1 := decide_eq_true c7
       try have c7b2 : (9223372036854775807 < ((a0_1 ++ (⟨#[64]⟩ : ByteArray)) ++ a0_2).size + ((⟨#[58]⟩ : ByteArray) ++ a0_4).size) = False := eq_false (Nat.not_lt.2 c7)
       obtain rfl := Option.some.inj H
       go_enter Tryd.func10, Tryd.ntmps10
       go_wp2_with (first | ((with_reducible refine gate_dst (N := 1) rfl ?_); refine xev 1 #[.bool true, .string a0_1, .string a0_2, .bool true, .string a0_4] 24 ?_; intro gb383 hg w8 hbox hb; have BK383 := Aside0.mk (hbox); have GW383 := xsz hg; have GE383 := GW383; replace HB := xst hb; clear hb hbox hg; obtain ⟨hcz9_0, hcz9_1, hcz9_2, hcz9_3, hcz9_4⟩ := xc5 BK383; have hfz9_0 := xf BK383 0; have hfz9_1 := xf BK383 1; have hfz9_2 := xf BK383 2; have hfz9_3 := xf BK383 3; have hfz9_4 := xf BK383 4))
       go_ret
       exact ⟨xre, xbl⟩
      ·
       rw [if_neg c7] at H
       exact absurd H (by simp)
     ·
      rw [if_neg c6] at H
      exact absurd H (by simp)
    ·
     replace c5 := Bool.eq_false_iff.mpr c5
     subst c5
     rw [if_neg (show ¬ (false = true) by decide)] at H
     obtain rfl := Option.some.inj H
     go_enter Tryd.func10, Tryd.ntmps10
     go_wp2_with (first | ((with_reducible refine gate_dst (N := 1) rfl ?_); refine xev 1 #[.bool true, .string a0_1, .string a0_2, .bool false, .string a0_4] 24 ?_; intro gb383 hg w10 hbox hb; have BK383 := Aside0.mk (hbox); have GW383 := xsz hg; have GE383 := GW383; replace HB := xst hb; clear hb hbox hg; obtain ⟨hcz11_0, hcz11_1, hcz11_2, hcz11_3, hcz11_4⟩ := xc5 BK383; have hfz11_0 := xf BK383 0; have hfz11_1 := xf BK383 1; have hfz11_2 := xf BK383 2; have hfz11_3 := xf BK383 3; have hfz11_4 := xf BK383 4))
     go_ret
     exact ⟨xre, xbl⟩
   ·
    rw [if_neg c4] at H
    exact absurd H (by simp)
  ·
   rw [if_neg c3] at H
   exact absurd H (by simp)
 ·
  replace c2 := Bool.eq_false_iff.mpr c2
  subst c2
  rw [if_neg (show ¬ (false = true) by decide)] at H
  by_cases c12 : a0_3 = true
  ·
   subst c12
   rw [if_pos rfl] at H
   by_cases c13 : 1 + a0_4.size ≤ 9223372036854775807
   ·
    rw [if_pos c13] at H
    have c13b0 := eq_true c13
    have c13b1 := decide_eq_true c13
    try have c13b2 : (9223372036854775807 < 1 + a0_4.size) = False := eq_false (Nat.not_lt.2 c13)
    by_cases c14 : a0_2.size + ((⟨#[58]⟩ : ByteArray) ++ a0_4).size ≤ 9223372036854775807
    ·
     rw [if_pos c14] at H
     have c14b0 := eq_true c14
     have c14b1 := decide_eq_true c14
     try have c14b2 : (9223372036854775807 < a0_2.size + ((⟨#[58]⟩ : ByteArray) ++ a0_4).size) = False := eq_false (Nat.not_lt.2 c14)
     obtain rfl := Option.some.inj H
     go_enter Tryd.func10, Tryd.ntmps10
     go_wp2_with (first | ((with_reducible refine gate_dst (N := 1) rfl ?_); refine xev 1 #[.bool false, .string a0_1, .string a0_2, .bool true, .string a0_4] 24 ?_; intro gb383 hg w15 hbox hb; have BK383 := Aside0.mk (hbox); have GW383 := xsz hg; have GE383 := GW383; replace HB := xst hb; clear hb hbox hg; obtain ⟨hcz16_0, hcz16_1, hcz16_2, hcz16_3, hcz16_4⟩ := xc5 BK383; have hfz16_0 := xf BK383 0; have hfz16_1 := xf BK383 1; have hfz16_2 := xf BK383 2; have hfz16_3 := xf BK383 3; have hfz16_4 := xf BK383 4))
     go_ret
     exact ⟨xre, xbl⟩
    ·
     rw [if_neg c14] at H
     exact absurd H (by simp)
   ·
    rw [if_neg c13] at H
    exact absurd H (by simp)
  ·
   replace c12 := Bool.eq_false_iff.mpr c12
   subst c12
   rw [if_neg (show ¬ (false = true) by decide)] at H
   obtain rfl := Option.some.inj H
   go_enter Tryd.func10, Tryd.ntmps10
   go_wp2_with (first | ((with_reducible refine gate_dst (N := 1) rfl ?_); refine xev 1 #[.bool false, .string a0_1, .string a0_2, .bool false, .string a0_4] 24 ?_; intro gb383 hg w17 hbox hb; have BK383 := Aside0.mk (hbox); have GW383 := xsz hg; have GE383 := GW383; replace HB := xst hb; clear hb hbox hg; obtain ⟨hcz18_0, hcz18_1, hcz18_2, hcz18_3, hcz18_4⟩ := xc5 BK383; have hfz18_0 := xf BK383 0; have hfz18_1 := xf BK383 1; have hfz18_2 := xf BK383 2; have hfz18_3 := xf BK383 3; have hfz18_4 := xf BK383 4))
   go_ret
   exact ⟨xre, xbl⟩
def monikerref21_Join.f (a0_0 : Bool) (a0_1 : ByteArray) (a0_2 : ByteArray) (a0_3 : Bool) (a0_4 : ByteArray) : Option (ByteArray) := if a0_0 = true then (if a0_1.size + 1 ≤ 9223372036854775807 then (if (a0_1 ++ (⟨#[64]⟩ : ByteArray)).size + a0_2.size ≤ 9223372036854775807 then (if a0_3 = true then (if 1 + a0_4.size ≤ 9223372036854775807 then (if ((a0_1 ++ (⟨#[64]⟩ : ByteArray)) ++ a0_2).size + ((⟨#[58]⟩ : ByteArray) ++ a0_4).size ≤ 9223372036854775807 then (some (((a0_1 ++ (⟨#[64]⟩ : ByteArray)) ++ a0_2) ++ ((⟨#[58]⟩ : ByteArray) ++ a0_4))) else (none)) else (none)) else (some ((a0_1 ++ (⟨#[64]⟩ : ByteArray)) ++ a0_2))) else (none)) else (none)) else (if 0 + a0_2.size ≤ 9223372036854775807 then (if a0_3 = true then (if 1 + a0_4.size ≤ 9223372036854775807 then (if ((⟨#[]⟩ : ByteArray) ++ a0_2).size + ((⟨#[58]⟩ : ByteArray) ++ a0_4).size ≤ 9223372036854775807 then (some (((⟨#[]⟩ : ByteArray) ++ a0_2) ++ ((⟨#[58]⟩ : ByteArray) ++ a0_4))) else (none)) else (none)) else (some ((⟨#[]⟩ : ByteArray) ++ a0_2))) else (none))
set_option maxHeartbeats 8000000 in
set_option maxRecDepth 100000 in
theorem monikerref21_Join.calls (a0_0 : Bool) (a0_1 : ByteArray) (a0_2 : ByteArray) (a0_3 : Bool) (a0_4 : ByteArray) (r : ByteArray) (w : World) (h : monikerref21_Join.f a0_0 a0_1 a0_2 a0_3 a0_4 = some r) :
    Calls Tryd.prog 11 #[.agg #[.bool a0_0, .string a0_1, .string a0_2, .bool a0_3, .string a0_4]] w fun e w' => e = .returned (.string r) ∧ Below w.heap.size w w' := by
 have hu24 := Tryd.underlying24
 have HB := Aside0.mk (Below.refl w.heap.size w)
 have H : (if a0_0 = true then (if a0_1.size + 1 ≤ 9223372036854775807 then (if (a0_1 ++ (⟨#[64]⟩ : ByteArray)).size + a0_2.size ≤ 9223372036854775807 then (if a0_3 = true then (if 1 + a0_4.size ≤ 9223372036854775807 then (if ((a0_1 ++ (⟨#[64]⟩ : ByteArray)) ++ a0_2).size + ((⟨#[58]⟩ : ByteArray) ++ a0_4).size ≤ 9223372036854775807 then (some (((a0_1 ++ (⟨#[64]⟩ : ByteArray)) ++ a0_2) ++ ((⟨#[58]⟩ : ByteArray) ++ a0_4))) else (none)) else (none)) else (some ((a0_1 ++ (⟨#[64]⟩ : ByteArray)) ++ a0_2))) else (none)) else (none)) else (if 0 + a0_2.size ≤ 9223372036854775807 then (if a0_3 = true then (if 1 + a0_4.size ≤ 9223372036854775807 then (if ((⟨#[]⟩ : ByteArray) ++ a0_2).size + ((⟨#[58]⟩ : ByteArray) ++ a0_4).size ≤ 9223372036854775807 then (some (((⟨#[]⟩ : ByteArray) ++ a0_2) ++ ((⟨#[58]⟩ : ByteArray) ++ a0_4))) else (none)) else (none)) else (some ((⟨#[]⟩ : ByteArray) ++ a0_2))) else (none))) = some r := h
 clear h
 by_cases c2 : a0_0 = true
 ·
  subst c2
  rw [if_pos rfl] at H
  by_cases c3 : a0_1.size + 1 ≤ 9223372036854775807
  ·
   rw [if_pos c3] at H
   have c3b0 := eq_true c3
   have c3b1 := decide_eq_true c3
   try have c3b2 : (9223372036854775807 < a0_1.size + 1) = False := eq_false (Nat.not_lt.2 c3)
   by_cases c4 : (a0_1 ++ (⟨#[64]⟩ : ByteArray)).size + a0_2.size ≤ 9223372036854775807
   ·
    rw [if_pos c4] at H
    have c4b0 := eq_true c4
    have c4b1 := decide_eq_true c4
    try have c4b2 : (9223372036854775807 < (a0_1 ++ (⟨#[64]⟩ : ByteArray)).size + a0_2.size) = False := eq_false (Nat.not_lt.2 c4)
    by_cases c5 : a0_3 = true
    ·
     subst c5
     rw [if_pos rfl] at H
     by_cases c6 : 1 + a0_4.size ≤ 9223372036854775807
     ·
      rw [if_pos c6] at H
      have c6b0 := eq_true c6
      have c6b1 := decide_eq_true c6
      try have c6b2 : (9223372036854775807 < 1 + a0_4.size) = False := eq_false (Nat.not_lt.2 c6)
      by_cases c7 : ((a0_1 ++ (⟨#[64]⟩ : ByteArray)) ++ a0_2).size + ((⟨#[58]⟩ : ByteArray) ++ a0_4).size ≤ 9223372036854775807
      ·
       rw [if_pos c7] at H
       have c7b0 := eq_true c7
       have c7b1 := decide_eq_true c7
       try have c7b2 : (9223372036854775807 < ((a0_1 ++ (⟨#[64]⟩ : ByteArray)) ++ a0_2).size + ((⟨#[58]⟩ : ByteArray) ++ a0_4).size) = False := eq_false (Nat.not_lt.2 c7)
       obtain rfl := Option.some.inj H
       go_enter Tryd.func11, Tryd.ntmps11
       go_wp2_with (first | ((with_reducible refine gate_dst (N := 1) rfl ?_); refine xev 1 #[.bool true, .string a0_1, .string a0_2, .bool true, .string a0_4] 24 ?_; intro gb384 hg w8 hbox hb; have BK384 := Aside0.mk (hbox); have GW384 := xsz hg; have GE384 := GW384; replace HB := xst hb; clear hb hbox hg; obtain ⟨hcz9_0, hcz9_1, hcz9_2, hcz9_3, hcz9_4⟩ := xc5 BK384; have hfz9_0 := xf BK384 0; have hfz9_1 := xf BK384 1; have hfz9_2 := xf BK384 2; have hfz9_3 := xf BK384 3; have hfz9_4 := xf BK384 4))
       go_ret
       exact ⟨xre, xbl⟩
      ·
       rw [if_neg c7] at H
       exact absurd H (by simp)
     ·
      rw [if_neg c6] at H
      exact absurd H (by simp)
    ·
     replace c5 := Bool.eq_false_iff.mpr c5
     subst c5
     rw [if_neg (show ¬ (false = true) by decide)] at H
     obtain rfl := Option.some.inj H
     go_enter Tryd.func11, Tryd.ntmps11
     go_wp2_with (first | ((with_reducible refine gate_dst (N := 1) rfl ?_); refine xev 1 #[.bool true, .string a0_1, .string a0_2, .bool false, .string a0_4] 24 ?_; intro gb384 hg w10 hbox hb; have BK384 := Aside0.mk (hbox); have GW384 := xsz hg; have GE384 := GW384; replace HB := xst hb; clear hb hbox hg; obtain ⟨hcz11_0, hcz11_1, hcz11_2, hcz11_3, hcz11_4⟩ := xc5 BK384; have hfz11_0 := xf BK384 0; have hfz11_1 := xf BK384 1; have hfz11_2 := xf BK384 2; have hfz11_3 := xf BK384 3; have hfz11_4 := xf BK384 4))
     go_ret
     exact ⟨xre, xbl⟩
   ·
    rw [if_neg c4] at H
    exact absurd H (by simp)
  ·
   rw [if_neg c3] at H
   exact absurd H (by simp)
 ·
  replace c2 := Bool.eq_false_iff.mpr c2
  subst c2
  rw [if_neg (show ¬ (false = true) by decide)] at H
  by_cases c12 : 0 + a0_2.size ≤ 9223372036854775807
  ·
   rw [if_pos c12] at H
   have c12b0 := eq_true c12
   have c12b1 := decide_eq_true c12
   try have c12b2 : (9223372036854775807 < 0 + a0_2.size) = False := eq_false (Nat.not_lt.2 c12)
   by_cases c13 : a0_3 = true
   ·
    subst c13
    rw [if_pos rfl] at H
    by_cases c14 : 1 + a0_4.size ≤ 9223372036854775807
    ·
     rw [if_pos c14] at H
     have c14b0 := eq_true c14
     have c14b1 := decide_eq_true c14
     try have c14b2 : (9223372036854775807 < 1 + a0_4.size) = False := eq_false (Nat.not_lt.2 c14)
     by_cases c15 : ((⟨#[]⟩ : ByteArray) ++ a0_2).size + ((⟨#[58]⟩ : ByteArray) ++ a0_4).size ≤ 9223372036854775807
     ·
      rw [if_pos c15] at H
      have c15b0 := eq_true c15
      have c15b1 := decide_eq_true c15
      try have c15b2 : (9223372036854775807 < ((⟨#[]⟩ : ByteArray) ++ a0_2).size + ((⟨#[58]⟩ : ByteArray) ++ a0_4).size) = False := eq_false (Nat.not_lt.2 c15)
      obtain rfl := Option.some.inj H
      go_enter Tryd.func11, Tryd.ntmps11
      go_wp2_with (first | ((with_reducible refine gate_dst (N := 1) rfl ?_); refine xev 1 #[.bool false, .string a0_1, .string a0_2, .bool true, .string a0_4] 24 ?_; intro gb384 hg w16 hbox hb; have BK384 := Aside0.mk (hbox); have GW384 := xsz hg; have GE384 := GW384; replace HB := xst hb; clear hb hbox hg; obtain ⟨hcz17_0, hcz17_1, hcz17_2, hcz17_3, hcz17_4⟩ := xc5 BK384; have hfz17_0 := xf BK384 0; have hfz17_1 := xf BK384 1; have hfz17_2 := xf BK384 2; have hfz17_3 := xf BK384 3; have hfz17_4 := xf BK384 4))
      go_ret
      exact ⟨xre, xbl⟩
     ·
      rw [if_neg c15] at H
      exact absurd H (by simp)
    ·
     rw [if_neg c14] at H
     exact absurd H (by simp)
   ·
    replace c13 := Bool.eq_false_iff.mpr c13
    subst c13
    rw [if_neg (show ¬ (false = true) by decide)] at H
    obtain rfl := Option.some.inj H
    go_enter Tryd.func11, Tryd.ntmps11
    go_wp2_with (first | ((with_reducible refine gate_dst (N := 1) rfl ?_); refine xev 1 #[.bool false, .string a0_1, .string a0_2, .bool false, .string a0_4] 24 ?_; intro gb384 hg w18 hbox hb; have BK384 := Aside0.mk (hbox); have GW384 := xsz hg; have GE384 := GW384; replace HB := xst hb; clear hb hbox hg; obtain ⟨hcz19_0, hcz19_1, hcz19_2, hcz19_3, hcz19_4⟩ := xc5 BK384; have hfz19_0 := xf BK384 0; have hfz19_1 := xf BK384 1; have hfz19_2 := xf BK384 2; have hfz19_3 := xf BK384 3; have hfz19_4 := xf BK384 4))
    go_ret
    exact ⟨xre, xbl⟩
  ·
   rw [if_neg c12] at H
   exact absurd H (by simp)
end Go.Proofs.YtdmigmccfdhdiaaDoor.X
namespace Go.Proofs.YtdmigmccfdhdiaaDoor.Y
open Go.RowKit Go.Proofs.YtdmigmccfdhdiaaDoor.X Go.Proofs.YtdmigmccfdhdiaaDoor.M Go.Proofs.YtdmigmccfdhdiaaDoorW.PrintWords Go.Proofs.YtdmigmccfdhdiaaDoorW.PrintLast
theorem append_nil (s : ByteArray) : s ++ (⟨#[]⟩ : ByteArray) = s := by
  apply bytes_inj; rw [bytes_append]; exact List.append_nil _
theorem part_sizes (s : ByteArray) : (partS s).2.1.size ≤ s.size ∧ (partS s).2.2.1.size ≤ s.size ∧ (partS s).2.2.2.2.size ≤ s.size := by
  have hz : (restS s).size ≤ s.size := by unfold restS; rw [size_extract_to]; omega
  unfold partS
  simp only [ByteArray.size_extract]
  omega
end Go.Proofs.YtdmigmccfdhdiaaDoor.Y
namespace Go.Proofs.YtdmigmccfdhdiaaDoor.Y
open Go.RowKit Go.Proofs.YtdmigmccfdhdiaaDoor.X Go.Proofs.YtdmigmccfdhdiaaDoor.M Go.Proofs.YtdmigmccfdhdiaaDoorW.PrintWords Go.Proofs.YtdmigmccfdhdiaaDoorW.PrintLast Go.Proofs.YtdmigmccfdhdiaaDoorW.PrintMore
set_option linter.unusedVariables false
def rightL (iri hu : Bool) (u h : List Int) (hp : Bool) (p : List Int) : Bool := (!hu || allAt 1 iri u) && (hostK iri h != 0) && (!hp || p.all digit)
theorem splitC_in (c : Int) (l : List Int) : ∀ b ∈ l, b = c ∨ ∃ p ∈ splitC c l, b ∈ p := by
  induction l with
  | nil => intro b h; cases h
  | cons x t ih =>
    intro b h
    rw [splitC_cons]
    by_cases hx : x = c
    · rw [if_pos hx]
      rcases List.mem_cons.1 h with h | h
      · left; rw [h]; exact hx
      · rcases ih b h with h | ⟨p, hp, h2⟩
        · exact .inl h
        · exact .inr ⟨p, List.mem_cons_of_mem _ hp, h2⟩
    · rw [if_neg hx]
      rcases List.mem_cons.1 h with h | h
      · exact .inr ⟨_, List.mem_cons_self .., by rw [h]; exact List.mem_cons_self ..⟩
      · rcases ih b h with h | ⟨p, hp, h2⟩
        · exact .inl h
        · right
          rw [splitC_head c t] at hp
          rcases List.mem_cons.1 hp with rfl | hp
          · exact ⟨_, List.mem_cons_self .., List.mem_cons_of_mem _ h2⟩
          · exact ⟨p, List.mem_cons_of_mem _ hp, h2⟩
def addrByte (b : Int) : Bool := hexd b || b == 58 || b == 46
theorem digit_addr {b : Int} (h : digit b = true) : addrByte b = true := by
  have := digit_iff.1 h
  unfold addrByte hexd
  simp only [Bool.or_eq_true, decide_eq_true_iff]
  omega
theorem v4_bytes {l : List Int} (h : (v4 l).isSome = true) : ∀ b ∈ l, digit b = true ∨ b = 46 := by
  intro b hb
  unfold v4 at h
  split at h
  · rename_i x y z w e
    split at h
    · rename_i hd
      rcases splitC_in 46 l b hb with h1 | ⟨p, hp, h1⟩
      · exact .inr h1
      · left
        rw [e] at hp
        simp only [List.mem_cons, List.mem_nil_iff, or_false] at hp
        have key : ∀ q : List Int, 0 ≤ d8 q → b ∈ q → digit b = true := fun q hq hm => List.all_eq_true.1 (d8_digit hq) b hm
        rcases hp with rfl | rfl | rfl | rfl
        · exact key _ hd.1 h1
        · exact key _ hd.2.1 h1
        · exact key _ hd.2.2.1 h1
        · exact key _ hd.2.2.2 h1
    · cases h
  · cases h
theorem words_bytes {fin : Bool} {r : List (List Int)} {l : List Int} (h : words fin r = some l) : ∀ p ∈ r, ∀ b ∈ p, addrByte b = true := by
  induction r generalizing l with
  | nil => simp
  | cons q r ih =>
    rw [words_cons] at h
    intro p hp b hb
    split at h
    · rename_i hc
      rw [hc.1] at hp
      rw [List.mem_singleton] at hp
      subst hp
      rcases v4_bytes hc.2.2 b hb with h1 | h1
      · exact digit_addr h1
      · rw [h1]; rfl
    · split at h
      · cases h
      · rename_i hw
        obtain ⟨x, hx, rfl⟩ := Option.map_eq_some_iff.1 h
        rcases List.mem_cons.1 hp with rfl | hp
        · have := List.all_eq_true.1 (word_all (l := p) (by omega)).1 b hb
          unfold addrByte
          rw [this]; rfl
        · exact ih hx p hp b hb
theorem rowS_bytes {fin : Bool} {l w : List Int} (h : rowS fin l = some w) : ∀ b ∈ l, addrByte b = true := by
  intro b hb
  unfold rowS at h
  split at h
  · rename_i e; rw [e] at hb; cases hb
  · rcases splitC_in 58 l b hb with h1 | ⟨p, hp, h1⟩
    · rw [h1]; rfl
    · exact words_bytes h p hp b h1
theorem v6_bytes {l : List Int} (h : (v6 l).isSome = true) : ∀ b ∈ l, addrByte b = true := by
  intro b hb
  obtain ⟨w, hw⟩ := Option.isSome_iff_exists.1 h
  unfold v6 at hw
  split at hw
  · obtain ⟨x, hx, _⟩ := Option.bind_eq_some_iff.1 hw
    exact rowS_bytes hx b hb
  · rename_i hs
    obtain ⟨x, hx, hw⟩ := Option.bind_eq_some_iff.1 hw
    obtain ⟨y, hy, _⟩ := Option.bind_eq_some_iff.1 hw
    have hsp := sidx_split (sub := [58, 58]) (l := l) (by omega)
    have e : l = l.take (sidx [58, 58] l).toNat ++ ([58, 58] ++ l.drop ((sidx [58, 58] l).toNat + 2)) := by
      have h1 := (List.take_append_drop (sidx [58, 58] l).toNat l).symm
      have h2 := (List.take_append_drop 2 (l.drop (sidx [58, 58] l).toNat)).symm
      have h3 : (l.drop (sidx [58, 58] l).toNat).take 2 = [58, 58] := hsp.2
      rw [h3, List.drop_drop] at h2
      rw [← h2]
      exact h1
    rw [e] at hb
    rcases List.mem_append.1 hb with h1 | h1
    · exact rowS_bytes hx b h1
    · rcases List.mem_append.1 h1 with h1 | h1
      · simp only [List.mem_cons, List.mem_nil_iff, or_false] at h1
        rcases h1 with rfl | rfl <;> rfl
      · exact rowS_bytes hy b h1
theorem fut_bytes {l : List Int} (h : fut l = true) : ∀ b ∈ l, addrByte b = true ∨ plainAt 1 b = true ∨ b = 118 ∨ b = 86 := by
  cases l with
  | nil => cases h
  | cons v t =>
    rw [fut_cons] at h
    simp only [Bool.and_eq_true, Bool.or_eq_true, beq_iff_eq] at h
    obtain ⟨⟨⟨⟨h1, h2⟩, h3⟩, h4⟩, h5⟩ := h
    intro b hb
    rcases List.mem_cons.1 hb with rfl | hb
    · rcases h1 with h1 | h1
      · exact .inr (.inr (.inl h1))
      · exact .inr (.inr (.inr h1))
    · rw [← List.take_append_drop (spanp hexd t) t] at hb
      rcases List.mem_append.1 hb with hb | hb
      · left
        have := spanp_take t b hb
        unfold addrByte
        rw [this]; rfl
      · cases hr : t.drop (spanp hexd t) with
        | nil => rw [hr] at hb; cases hb
        | cons c r =>
          rw [hr] at hb h4 h5
          rcases List.mem_cons.1 hb with rfl | hb
          · left
            have : b = 46 := h4
            rw [this]; rfl
          · exact .inr (.inl (List.all_eq_true.1 h5 b hb))
theorem byteAt2 {b : Int} (h : byteAt 2 b = true) : b ≠ 58 ∧ b ≠ 64 ∧ b ≠ 91 ∧ b ≠ 93 := by
  refine ⟨?_, ?_, ?_, ?_⟩ <;> (rintro rfl; exact absurd h (by decide))
theorem inside_bytes {b : Int} (h : addrByte b = true ∨ plainAt 1 b = true ∨ b = 118 ∨ b = 86) : b ≠ 64 ∧ b ≠ 93 := by
  constructor <;> (rintro rfl; exact absurd h (by decide))
theorem brack_split {l : List Int} (h : brack l = true) : l = 91 :: ((l.take (l.length - 1)).drop 1 ++ [93]) := by
  unfold brack at h
  simp only [Bool.and_eq_true, decide_eq_true_iff, beq_iff_eq] at h
  obtain ⟨⟨h1, h2⟩, h3⟩ := h
  cases l with
  | nil => simp at h1
  | cons a t =>
    have ha : a = 91 := h2
    subst ha
    have ht : t ≠ [] := by rintro rfl; simp at h1
    have e : t = t.dropLast ++ [93] := by
      have := (List.dropLast_concat_getLast ht).symm
      have hl : t.getLast ht = 93 := by
        rw [List.getLastD_eq_getLast?, List.getLast?_eq_some_getLast (by simp), Option.getD_some, List.getLast_cons ht] at h3
        exact h3
      rw [hl] at this
      exact this
    congr 1
    rw [show (91 :: t).length - 1 = (t.length - 1) + 1 by
      have : t.length ≠ 0 := fun x => ht (List.length_eq_zero_iff.1 x)
      simp; omega]
    rw [List.take_succ_cons, List.drop_succ_cons, List.drop_zero, ← List.dropLast_eq_take]
    exact e
theorem hostK_bytes {iri : Bool} {h : List Int} (hl : ∀ b ∈ h, 0 ≤ b ∧ b ≤ 255) (hk : hostK iri h ≠ 0) : (64 : Int) ∉ h ∧ ((∃ m, h = 91 :: (m ++ [93]) ∧ (93 : Int) ∉ m) ∨ ((58 : Int) ∉ h ∧ (91 : Int) ∉ h)) := by
  unfold hostK at hk
  by_cases hb : brack h = true
  · rw [if_pos hb] at hk
    have e := brack_split hb
    generalize (h.take (h.length - 1)).drop 1 = m at hk e
    have hm : ∀ b ∈ m, b ≠ 64 ∧ b ≠ 93 := by
      by_cases hc : ((v6 m).isSome || fut m) = true
      · rw [Bool.or_eq_true] at hc
        rcases hc with hc | hc
        · exact fun b hb => inside_bytes (.inl (v6_bytes hc b hb))
        · exact fun b hb => inside_bytes (fut_bytes hc b hb)
      · rw [if_neg hc] at hk
        exact absurd rfl hk
    refine ⟨?_, .inl ⟨m, e, fun x => (hm _ x).2 rfl⟩⟩
    rw [e]
    intro x
    rcases List.mem_cons.1 x with x | x
    · cases x
    · rcases List.mem_append.1 x with x | x
      · exact (hm _ x).1 rfl
      · rw [List.mem_singleton] at x; cases x
  · rw [if_neg hb] at hk
    have key : ∀ b ∈ h, b ≠ 58 ∧ b ≠ 64 ∧ b ≠ 91 := by
      by_cases h4 : (v4 h).isSome = true
      · intro b hb
        rcases v4_bytes h4 b hb with h1 | h1
        · have := digit_iff.1 h1; omega
        · omega
      · rw [if_neg h4] at hk
        by_cases ha : allAt 2 iri h = true
        · intro b hb
          have := byteAt2 (allAt_bytes hl ha b hb)
          exact ⟨this.1, this.2.1, this.2.2.1⟩
        · rw [if_neg ha] at hk
          exact absurd rfl hk
    exact ⟨fun x => (key _ x).2.1 rfl, .inr ⟨fun x => (key _ x).1 rfl, fun x => (key _ x).2.2 rfl⟩⟩
theorem idx_at {c : Int} {a : List Int} (h : c ∉ a) (r : List Int) : idx c (a ++ c :: r) = a.length := by
  rw [idx_append, if_pos (idx_none.2 h)]
  have : idx c (c :: r) = 0 := by unfold idx; rw [if_pos rfl]
  rw [this, if_neg (by omega)]; omega
theorem lidx_at {c : Int} (a : List Int) {r : List Int} (h : c ∉ r) : lidx c (a ++ c :: r) = a.length := by
  induction a with
  | nil =>
    rw [List.nil_append]
    have : lidx c (c :: r) = if lidx c r = -1 then (if c = c then 0 else -1) else lidx c r + 1 := rfl
    rw [this, if_pos (lidx_none.2 h), if_pos rfl]; rfl
  | cons b t ih =>
    rw [List.cons_append]
    have : lidx c (b :: (t ++ c :: r)) = if lidx c (t ++ c :: r) = -1 then (if b = c then 0 else -1) else lidx c (t ++ c :: r) + 1 := rfl
    rw [this, ih, if_neg (by omega), List.length_cons]; omega
def glue (hu : Bool) (u h : List Int) (hp : Bool) (p : List Int) : List Int := (if hu then u ++ [64] else []) ++ (h ++ if hp then 58 :: p else [])
def partL (l : List Int) : Bool × List Int × List Int × Bool × List Int :=
  (decide (0 ≤ lidx 64 l), l.take (lidx 64 l).toNat, (l.drop (lidx 64 l + 1).toNat).take (hostEnd (l.drop (lidx 64 l + 1).toNat)).toNat,
   decide (hostEnd (l.drop (lidx 64 l + 1).toNat) < (l.drop (lidx 64 l + 1).toNat).length), (l.drop (lidx 64 l + 1).toNat).drop ((hostEnd (l.drop (lidx 64 l + 1).toNat)).toNat + 1))
theorem hostEnd_right {h : List Int} (hh : (∃ m, h = 91 :: (m ++ [93]) ∧ (93 : Int) ∉ m) ∨ ((58 : Int) ∉ h ∧ (91 : Int) ∉ h)) (hp : Bool) (p : List Int) : hostEnd (h ++ if hp then 58 :: p else []) = h.length := by
  rcases hh with ⟨m, e, hm⟩ | ⟨h58, h91⟩
  · have e2 : h ++ (if hp then 58 :: p else []) = (91 :: m) ++ 93 :: (if hp then 58 :: p else []) := by rw [e]; simp
    have hi : idx 93 ((91 :: m) ++ 93 :: (if hp then 58 :: p else [])) = (m.length : Int) + 1 := by
      rw [idx_at (by rw [List.mem_cons, not_or]; exact ⟨by decide, hm⟩), List.length_cons]; omega
    have hl : h.length = m.length + 2 := by rw [e]; simp
    rw [e2]
    unfold hostEnd
    rw [hi, if_pos ⟨by simp, by omega⟩]
    have hd : ((91 :: m) ++ 93 :: (if hp then 58 :: p else [])).drop (((m.length : Int) + 1).toNat + 1) = if hp then 58 :: p else [] := by
      have : ((m.length : Int) + 1).toNat + 1 = ((91 : Int) :: m).length + 1 := by rw [List.length_cons]; omega
      rw [this, List.drop_append]
      simp
    rw [hd, if_pos (by cases hp <;> simp)]
    omega
  · have ht : ¬ ((h ++ if hp then 58 :: p else []).take 1 = [91]) := by
      cases h with
      | nil => cases hp <;> simp
      | cons b t =>
        rw [List.cons_append, List.take_succ_cons, List.take_zero]
        intro x
        injection x with x
        exact h91 (by rw [x]; exact List.mem_cons_self ..)
    unfold hostEnd
    rw [if_neg (fun x => ht x.1)]
    cases hp
    · have : idx 58 (h ++ if false = true then 58 :: p else []) = -1 := by
        rw [if_neg (by simp), List.append_nil]
        exact idx_none.2 h58
      rw [this, if_neg (by omega), if_neg (by simp), List.append_nil]
    · have : idx 58 (h ++ if true = true then 58 :: p else []) = h.length := by
        rw [if_pos rfl]
        exact idx_at h58 p
      rw [this, if_pos (by omega)]
theorem right_part {iri hu : Bool} {u h : List Int} {hp : Bool} {p : List Int} (hul : ∀ b ∈ u, 0 ≤ b ∧ b ≤ 255) (hhl : ∀ b ∈ h, 0 ≤ b ∧ b ≤ 255) (hu0 : hu = false → u = []) (hp0 : hp = false → p = [])
    (hr : rightL iri hu u h hp p = true) : partL (glue hu u h hp p) = (hu, u, h, hp, p) := by
  unfold rightL at hr
  simp only [Bool.and_eq_true, Bool.or_eq_true, Bool.not_eq_true'] at hr
  obtain ⟨⟨h1, h2⟩, h3⟩ := hr
  have h2' : hostK iri h ≠ 0 := by simpa using h2
  obtain ⟨h64, hform⟩ := hostK_bytes hhl h2'
  have he := hostEnd_right hform hp p
  have hrest : (64 : Int) ∉ h ++ if hp then 58 :: p else [] := by
    intro x
    rcases List.mem_append.1 x with x | x
    · exact h64 x
    · cases hp
      · simp at x
      · rw [if_pos rfl] at x
        rcases List.mem_cons.1 x with x | x
        · cases x
        · rcases h3 with h3 | h3
          · cases h3
          · have := digit_iff.1 (List.all_eq_true.1 h3 _ x); omega
  have both : ∀ r, r = h ++ (if hp then 58 :: p else []) → r.take (hostEnd r).toNat = h ∧ decide (hostEnd r < r.length) = hp ∧ r.drop ((hostEnd r).toNat + 1) = p := by
    intro r e
    subst e
    rw [he, Int.toNat_natCast]
    refine ⟨by simp, ?_, ?_⟩
    · cases hp
      · rw [decide_eq_false]; simp
      · rw [decide_eq_true]; simp; omega
    · cases hp
      · rw [hp0 rfl]
        apply List.drop_of_length_le
        simp
      · rw [if_pos rfl, List.drop_append]
        simp
  unfold partL glue
  cases hu
  · have hl : lidx 64 ((if false = true then u ++ [64] else []) ++ (h ++ if hp then 58 :: p else [])) = -1 := by
      rw [if_neg (by simp), List.nil_append]
      exact lidx_none.2 hrest
    rw [hl, if_neg (by simp), List.nil_append]
    obtain ⟨b1, b2, b3⟩ := both _ rfl
    have e0 : ((-1 : Int) + 1).toNat = 0 := rfl
    rw [e0, List.drop_zero, b1, b2, b3, hu0 rfl]
    rfl
  · have hl : lidx 64 ((if true = true then u ++ [64] else []) ++ (h ++ if hp then 58 :: p else [])) = u.length := by
      rw [if_pos rfl, List.append_assoc, List.singleton_append]
      exact lidx_at u hrest
    rw [hl, if_pos rfl]
    obtain ⟨b1, b2, b3⟩ := both _ rfl
    have e0 : ((u.length : Int) + 1).toNat = u.length + 1 := by omega
    have e1 : ((u ++ [64]) ++ (h ++ if hp then 58 :: p else [])).drop (u.length + 1) = h ++ if hp then 58 :: p else [] := by
      rw [List.drop_append]; simp
    have e2 : ((u ++ [64]) ++ (h ++ if hp then 58 :: p else [])).take u.length = u := by
      rw [List.append_assoc]; simp
    rw [e0, e1, b1, b2, b3, Int.toNat_natCast, e2, decide_eq_true (by omega)]
end Go.Proofs.YtdmigmccfdhdiaaDoor.Y
namespace Go.Proofs.YtdmigmccfdhdiaaDoor.Y
open Go.RowKit Go.Proofs.YtdmigmccfdhdiaaDoor.X Go.Proofs.YtdmigmccfdhdiaaDoor.M Go.Proofs.YtdmigmccfdhdiaaDoorW.PrintWords Go.Proofs.YtdmigmccfdhdiaaDoorW.PrintLast Go.Proofs.YtdmigmccfdhdiaaDoorW.PrintMore
set_option linter.unusedVariables false
theorem span_digits (l : List Int) (hl : ∀ b ∈ l, 0 ≤ b ∧ b ≤ 255) : (((spanp (fun b => isc b 2) l : Nat) : Int) = (l.length : Int)) ↔ l.all digit = true := by
  rw [spanp_congr (q := digit) (fun b hb => isc_digit (hl b hb).1 (hl b hb).2), List.all_eq_true]
  have := spanp_all (p := digit) (l := l)
  constructor
  · intro h; exact this.1 (by omega)
  · intro h; have := this.2 h; omega
theorem seatRight_f (iri hu : Bool) (u h : ByteArray) (hp : Bool) (p : ByteArray) (s1 : u.size ≤ 1000000) (s2 : h.size ≤ 1000000) (s3 : p.size ≤ 1000000) :
    Ev (fun k => seat_Right.f k iri hu u h hp p) (rightL iri hu (bytesOf u) (bytesOf h) hp (bytesOf p)) := by
  have bad : Ev (fun k => seat_Right.j0 k iri true hu u h hp p) false := by
    refine Ev.step (fun k => by rw [seat_Right.j0]) ?_
    exact Ev.ite_pos rfl (Ev.now _)
  have good : Ev (fun k => seat_Right.j0 k iri false hu u h hp p) ((hostK iri (bytesOf h) != 0) && (!hp || (bytesOf p).all digit)) := by
    refine Ev.step (fun k => by rw [seat_Right.j0]) ?_
    refine Ev.ite_neg (by simp) (Ev.bind' (host19_f iri h s2) ?_)
    refine Ev.ite (fun h0 => Ev.val (by simp [h0])) (fun h0 => ?_)
    have e0 : (hostK iri (bytesOf h) != 0) = true := by simpa using h0
    rw [e0]
    refine Ev.ite (fun h1 => Ev.bind' (octSpan_f p 2 (by omega)) (Ev.val ?_)) (fun h1 => Ev.val ?_)
    · have := span_digits (bytesOf p) (fun b hb => bytes_range hb)
      rw [bytes_len] at this
      rw [h1, Bool.eq_iff_iff, beq_iff_eq, this]
      simp
    · rw [Bool.not_eq_true] at h1
      simp [h1]
  unfold seat_Right.f rightL
  cases hu
  · refine Ev.ite_neg (by simp) ?_
    simp only [Bool.not_false, Bool.true_or, Bool.true_and]
    exact good
  · refine Ev.ite_pos rfl (Ev.bind' (all_f 1 iri u (by omega)) ?_)
    cases ha : allAt 1 iri (bytesOf u)
    · exact bad
    · simp only [Bool.not_true, Bool.or_true, Bool.true_and]
      exact good
theorem refRight_f (iri hu : Bool) (u h : ByteArray) (hp : Bool) (p : ByteArray) (s1 : u.size ≤ 1000000) (s2 : h.size ≤ 1000000) (s3 : p.size ≤ 1000000) :
    Ev (fun k => monikerref21_Right.f k iri hu u h hp p) (rightL iri hu (bytesOf u) (bytesOf h) hp (bytesOf p)) := by
  have bad : Ev (fun k => monikerref21_Right.j0 k iri true hu u h hp p) false := by
    refine Ev.step (fun k => by rw [monikerref21_Right.j0]) ?_
    exact Ev.ite_pos rfl (Ev.now _)
  have good : Ev (fun k => monikerref21_Right.j0 k iri false hu u h hp p) ((hostK iri (bytesOf h) != 0) && (!hp || (bytesOf p).all digit)) := by
    refine Ev.step (fun k => by rw [monikerref21_Right.j0]) ?_
    refine Ev.ite_neg (by simp) ?_
    refine Ev.ite (fun h1 => Ev.bind' (refSpan_f p 2 (by omega)) ?_) (fun h1 => ?_)
    · have := span_digits (bytesOf p) (fun b hb => bytes_range hb)
      rw [bytes_len] at this
      rw [h1]
      refine Ev.ite (fun h2 => Ev.bind' (refHost_f iri h s2) (Ev.val ?_)) (fun h2 => Ev.val ?_)
      · rw [this.1 h2]; simp
      · have h3 : ¬ ((bytesOf p).all digit = true) := fun x => h2 (this.2 x)
        rw [Bool.not_eq_true] at h3
        rw [h3]; simp
    · rw [Bool.not_eq_true] at h1
      rw [h1]
      exact Ev.bind' (refHost_f iri h s2) (Ev.val (by simp))
  unfold monikerref21_Right.f rightL
  cases hu
  · refine Ev.ite_neg (by simp) ?_
    simp only [Bool.not_false, Bool.true_or, Bool.true_and]
    exact good
  · refine Ev.ite_pos rfl (Ev.bind' (refSpan18_f 1 iri u (by omega)) ?_)
    cases ha : allAt 1 iri (bytesOf u)
    · have e : (((spanAt 1 iri (bytesOf u) : Nat) : Int) != (u.size : Int)) = true := by
        unfold allAt at ha
        rw [beq_eq_false_iff_ne, bytes_len] at ha
        simp; omega
      rw [e]
      exact bad
    · have e : (((spanAt 1 iri (bytesOf u) : Nat) : Int) != (u.size : Int)) = false := by
        unfold allAt at ha
        rw [beq_iff_eq, bytes_len] at ha
        simp; omega
      rw [e]
      simp only [Bool.not_true, Bool.or_true, Bool.true_and]
      exact good
def rightP (iri : Bool) (x : Bool × ByteArray × ByteArray × Bool × ByteArray) : Bool := rightL iri x.1 (bytesOf x.2.1) (bytesOf x.2.2.1) x.2.2.2.1 (bytesOf x.2.2.2.2)
theorem seatPart_sizes (s : ByteArray) : (partS s).2.1.size ≤ s.size ∧ (partS s).2.2.1.size ≤ s.size ∧ (partS s).2.2.2.2.size ≤ s.size := part_sizes s
theorem parse_f (iri : Bool) (s : ByteArray) (hs : s.size ≤ 1000000) : Ev (fun k => seat_Parse.f k iri s)
    (if rightP iri (partS s) then ((partS s).1, (partS s).2.1, (partS s).2.2.1, (partS s).2.2.2.1, (partS s).2.2.2.2, true) else (false, (⟨#[]⟩ : ByteArray), (⟨#[]⟩ : ByteArray), false, (⟨#[]⟩ : ByteArray), false)) := by
  unfold seat_Parse.f
  have hz := seatPart_sizes s
  refine Ev.bind' (part_f s (by omega)) (Ev.bind' (seatRight_f iri _ _ _ _ _ (by omega) (by omega) (by omega)) ?_)
  exact Ev.ite (fun h => Ev.val (if_pos h).symm) (fun h => Ev.val (if_neg h).symm)
theorem partS_L (s : ByteArray) : ((partS s).1, bytesOf (partS s).2.1, bytesOf (partS s).2.2.1, (partS s).2.2.2.1, bytesOf (partS s).2.2.2.2) = partL (bytesOf s) := by
  have ts : (bytesOf s).take s.size = bytesOf s := by rw [← bytes_len, List.take_length]
  have hr : (s.extract (lidx 64 (bytesOf s) + 1).toNat s.size).size = ((bytesOf s).drop (lidx 64 (bytesOf s) + 1).toNat).length := by rw [← bytes_len, bytes_from]
  unfold partS partL restS
  simp only [bytes_extract, ts, hr, List.drop_zero, List.take_length]
def cand (s : ByteArray) (i : Int) (k : Nat) : S24 := ⟨decide (0 ≤ i), s.extract 0 i.toNat, s.extract (i + 1).toNat k, decide (k < s.size), s.extract (k + 1) s.size⟩
def good (iri : Bool) (s : ByteArray) (i : Int) (k : Nat) : Bool := rightL iri (cand s i k).f0 (bytesOf (cand s i k).f1) (bytesOf (cand s i k).f2) (cand s i k).f3 (bytesOf (cand s i k).f4)
def partT (s : ByteArray) : S24 := ⟨(partS s).1, (partS s).2.1, (partS s).2.2.1, (partS s).2.2.2.1, (partS s).2.2.2.2⟩
def iS (s : ByteArray) : Int := lidx 64 (bytesOf s)
def kS (s : ByteArray) : Nat := (iS s + 1).toNat + (hostEnd (bytesOf (restS s))).toNat
theorem iS_range (s : ByteArray) : -1 ≤ iS s ∧ iS s < s.size := by
  have h1 := lidx_ge 64 (bytesOf s)
  have h2 := lidx_lt 64 (bytesOf s)
  rw [bytes_len] at h2
  exact ⟨h1, h2⟩
theorem kS_range (s : ByteArray) : iS s < kS s ∧ kS s ≤ s.size := by
  have h := iS_range s
  have hr := hostEnd_range (bytesOf (restS s))
  rw [bytes_len] at hr
  have hz : (restS s).size = s.size - (iS s + 1).toNat := size_extract_to s _
  unfold kS
  omega
theorem cand_S (s : ByteArray) : cand s (iS s) (kS s) = partT s := by
  have h := iS_range s
  have hr := hostEnd_range (bytesOf (restS s))
  rw [bytes_len] at hr
  have hz : (restS s).size = s.size - (iS s + 1).toNat := size_extract_to s _
  have e1 : s.extract (iS s + 1).toNat (kS s) = (restS s).extract 0 (hostEnd (bytesOf (restS s))).toNat := by
    apply bytes_inj
    rw [bytes_extract, bytes_extract]
    unfold restS
    rw [bytes_from, List.drop_zero, List.drop_take]
    unfold kS iS restS
    rw [bytes_from]
    congr 1; omega
  have e2 : decide (kS s < s.size) = decide (hostEnd (bytesOf (restS s)) < (restS s).size) := by
    rw [decide_eq_decide]; unfold kS; omega
  have e3 : s.extract (kS s + 1) s.size = (restS s).extract ((hostEnd (bytesOf (restS s))).toNat + 1) (restS s).size := by
    unfold restS
    rw [extract_extract_to]
    unfold kS iS restS
    first | rfl | (congr 1; omega)
  unfold cand partT partS
  rw [e1, e2, e3]
  rfl
def vi (s : ByteArray) (i : Int) : Prop := i = -1 ∨ (0 ≤ i ∧ i < s.size ∧ bt s i = 64)
def vk (s : ByteArray) (k : Nat) : Prop := k = s.size ∨ (k < s.size ∧ bt s (k : Int) = 58)
theorem glue_cand (s : ByteArray) (i : Int) (k : Nat) (hi : vi s i) (hik : i < k) (hk : k ≤ s.size) (hv : vk s k) :
    glue (cand s i k).f0 (bytesOf (cand s i k).f1) (bytesOf (cand s i k).f2) (cand s i k).f3 (bytesOf (cand s i k).f4) = bytesOf s := by
  have ts : (bytesOf s).take s.size = bytesOf s := by rw [← bytes_len, List.take_length]
  unfold glue cand
  simp only [bytes_extract, ts, List.drop_zero]
  have tail : (bytesOf s).drop (i + 1).toNat = ((bytesOf s).take k).drop (i + 1).toNat ++ (if decide (k < s.size) then 58 :: (bytesOf s).drop (k + 1) else []) := by
    have h1 : (bytesOf s).drop (i + 1).toNat = (((bytesOf s).take k ++ (bytesOf s).drop k)).drop (i + 1).toNat := by rw [List.take_append_drop]
    rw [h1, List.drop_append_of_le_length (by rw [List.length_take, bytes_len]; omega)]
    congr 1
    rcases hv with rfl | ⟨h2, h3⟩
    · rw [List.drop_of_length_le (by rw [bytes_len]; omega)]; simp
    · rcases at_or_end s k hk with ⟨h4, _⟩ | ⟨_, e, _⟩
      · omega
      · rw [e, h3, decide_eq_true h2, if_pos rfl]
  rw [← tail]
  rcases hi with rfl | ⟨h0, h1, h2⟩
  · simp
  · rw [decide_eq_true h0, if_pos rfl]
    have e1 : (i + 1).toNat = i.toNat + 1 := by omega
    rcases at_or_end s i.toNat (by omega) with ⟨h4, _⟩ | ⟨_, e, _⟩
    · omega
    · rw [Int.toNat_of_nonneg h0, h2] at e
      rw [e1, List.append_assoc, List.singleton_append, ← e, List.take_append_drop]
theorem good_only (iri : Bool) (s : ByteArray) (i : Int) (k : Nat) (hi : vi s i) (hik : i < k) (hk : k ≤ s.size) (hv : vk s k) (hg : good iri s i k = true) : i = iS s ∧ k = kS s := by
  have hiv : i < s.size := by rcases hi with rfl | h <;> omega
  have hr := right_part (fun b hb => bytes_range hb) (fun b hb => bytes_range hb) (fun h => by
      unfold cand at h ⊢
      simp only [decide_eq_false_iff_not] at h ⊢
      have : i.toNat = 0 := by omega
      rw [this, extract_zero]; rfl) (fun h => by
      unfold cand at h ⊢
      simp only [decide_eq_false_iff_not] at h ⊢
      rw [extract_past s _ (by omega)]; rfl) hg
  rw [glue_cand s i k hi hik hk hv] at hr
  have hL := (partS_L s).trans hr
  simp only [Prod.mk.injEq] at hL
  obtain ⟨q1, q2, q3, q4, q5⟩ := hL
  have n2 := congrArg List.length q2
  have n3 := congrArg List.length q3
  unfold cand at q1 n2 n3
  unfold partS at q1 n2 n3
  simp only [decide_eq_decide] at q1
  rw [bytes_len, bytes_len, ByteArray.size_extract, ByteArray.size_extract] at n2 n3
  have hir := iS_range s
  have hz : (restS s).size = s.size - (iS s + 1).toNat := size_extract_to s _
  have hre := hostEnd_range (bytesOf (restS s))
  rw [bytes_len] at hre
  have hii : i = iS s := by
    unfold iS at hir ⊢
    rcases hi with rfl | h
    · omega
    · omega
  refine ⟨hii, ?_⟩
  subst hii
  unfold kS
  omega
def outAt (iri : Bool) (s : ByteArray) (i : Int) (k : Nat) : List S24 := if good iri s (iS s) (kS s) = true ∧ (iS s < i ∨ (iS s = i ∧ kS s < k)) then [partT s] else []
theorem out_next (iri : Bool) (s : ByteArray) (i : Int) (k : Nat) (hi : vi s i) (hik : i < k) (hk : k ≤ s.size) (hv : vk s k) : (if good iri s i k = true then outAt iri s i k ++ [cand s i k] else outAt iri s i k) = outAt iri s i (k + 1) := by
  by_cases hg : good iri s i k = true
  · obtain ⟨e1, e2⟩ := good_only iri s i k hi hik hk hv hg
    subst e1; subst e2
    rw [if_pos hg]
    unfold outAt
    rw [if_neg (by omega), if_pos ⟨hg, by omega⟩, cand_S]; rfl
  · rw [if_neg hg]
    unfold outAt
    by_cases hG : good iri s (iS s) (kS s) = true
    · have hne : ¬ (iS s = i ∧ kS s = k) := by
        rintro ⟨rfl, rfl⟩; exact hg hG
      by_cases hc : iS s < i ∨ (iS s = i ∧ kS s < k)
      · rw [if_pos ⟨hG, hc⟩, if_pos ⟨hG, by omega⟩]
      · rw [if_neg (fun x => hc x.2), if_neg (by omega)]
    · rw [if_neg (fun x => hG x.1), if_neg (fun x => hG x.1)]
theorem out_skip (iri : Bool) (s : ByteArray) (i : Int) (k : Nat) (hne : ¬ (iS s = i ∧ kS s = k)) : outAt iri s i k = outAt iri s i (k + 1) := by
  unfold outAt
  by_cases hG : good iri s (iS s) (kS s) = true
  · by_cases hc : iS s < i ∨ (iS s = i ∧ kS s < k)
    · rw [if_pos ⟨hG, hc⟩, if_pos ⟨hG, by omega⟩]
    · rw [if_neg (fun x => hc x.2), if_neg (by omega)]
  · rw [if_neg (fun x => hG x.1), if_neg (fun x => hG x.1)]
theorem out_row (iri : Bool) (s : ByteArray) (i : Int) (k j : Nat) (h : iS s = i → kS s < k) (hj : (j : Int) ≤ i + 2) : outAt iri s i k = outAt iri s (i + 1) j := by
  have hk := kS_range s
  unfold outAt
  by_cases hG : good iri s (iS s) (kS s) = true
  · by_cases hc : iS s ≤ i
    · rw [if_pos ⟨hG, by omega⟩, if_pos ⟨hG, by omega⟩]
    · rw [if_neg (by omega), if_neg (by omega)]
  · rw [if_neg (fun x => hG x.1), if_neg (fun x => hG x.1)]
theorem out_len (iri : Bool) (s : ByteArray) (i : Int) (k : Nat) : (outAt iri s i k).length ≤ 1 := by
  unfold outAt
  split <;> simp
theorem drop_at {l : List Int} {n : Nat} {c : Int} (h : l = l.take n ++ c :: l.drop (n + 1)) (hn : n < l.length) : l.drop n = c :: l.drop (n + 1) := by
  have h2 := congrArg (List.drop n) h
  rw [List.drop_append_of_le_length (by rw [List.length_take]; omega), List.drop_of_length_le (l := l.take n) (by rw [List.length_take]; omega), List.nil_append] at h2
  exact h2
theorem vi_S (s : ByteArray) : vi s (iS s) := by
  by_cases h : 0 ≤ iS s
  · right
    refine ⟨h, (iS_range s).2, ?_⟩
    have hl := lidx_split (c := 64) (l := bytesOf s) h
    have hlt := (iS_range s).2
    rcases at_or_end s (iS s).toNat (by omega) with ⟨h4, _⟩ | ⟨_, e, _⟩
    · omega
    · rw [Int.toNat_of_nonneg h] at e
      have e3 := drop_at hl.1 (by unfold iS at hlt; rw [bytes_len]; omega)
      unfold iS at e ⊢
      rw [e] at e3
      injection e3
  · left
    have := (iS_range s).1
    omega
theorem vk_S (s : ByteArray) : vk s (kS s) := by
  have hk := kS_range s
  have hi := iS_range s
  by_cases h : kS s = s.size
  · exact .inl h
  right
  refine ⟨by omega, ?_⟩
  have hz : (restS s).size = s.size - (iS s + 1).toNat := size_extract_to s _
  have hre := hostEnd_range (bytesOf (restS s))
  rw [bytes_len] at hre
  have hlt : hostEnd (bytesOf (restS s)) < (bytesOf (restS s)).length := by
    rw [bytes_len]
    unfold kS at h hk
    omega
  have key : ∀ l : List Int, hostEnd l < l.length → ∃ t, l.drop (hostEnd l).toNat = 58 :: t := by
    intro l hl
    unfold hostEnd at hl ⊢
    by_cases h1 : l.take 1 = [91] ∧ 0 ≤ idx 93 l
    · rw [if_pos h1] at hl ⊢
      by_cases h2 : l.drop ((idx 93 l).toNat + 1) = [] ∨ (l.drop ((idx 93 l).toNat + 1)).getD 0 0 = 58
      · rw [if_pos h2] at hl ⊢
        have e : (idx 93 l + 1).toNat = (idx 93 l).toNat + 1 := by omega
        rw [e]
        rcases h2 with h2 | h2
        · rw [List.drop_eq_nil_iff] at h2; omega
        · cases hd : l.drop ((idx 93 l).toNat + 1) with
          | nil => rw [List.drop_eq_nil_iff] at hd; omega
          | cons b t =>
            rw [hd] at h2
            have : b = 58 := h2
            exact ⟨t, by rw [this]⟩
      · rw [if_neg h2] at hl; omega
    · rw [if_neg h1] at hl ⊢
      by_cases h2 : 0 ≤ idx 58 l
      · rw [if_pos h2] at hl ⊢
        have hs := idx_split h2
        refine ⟨l.drop ((idx 58 l).toNat + 1), ?_⟩
        exact drop_at hs.1 (by omega)
      · rw [if_neg h2] at hl; omega
  obtain ⟨t, ht⟩ := key _ hlt
  unfold restS at ht
  rw [bytes_from, List.drop_drop] at ht
  have e : (lidx 64 (bytesOf s) + 1).toNat + (hostEnd ((bytesOf s).drop (lidx 64 (bytesOf s) + 1).toNat)).toNat = kS s := by
    unfold kS iS restS
    rw [bytes_from]
  rw [e] at ht
  exact (at_drop ht).1
end Go.Proofs.YtdmigmccfdhdiaaDoor.Y
namespace Go.Proofs.YtdmigmccfdhdiaaDoor.Y
open Go.RowKit Go.Proofs.YtdmigmccfdhdiaaDoor.X Go.Proofs.YtdmigmccfdhdiaaDoor.M Go.Proofs.YtdmigmccfdhdiaaDoorW.PrintWords Go.Proofs.YtdmigmccfdhdiaaDoorW.PrintLast Go.Proofs.YtdmigmccfdhdiaaDoorW.PrintMore
set_option linter.unusedVariables false
theorem cand_sizes (s : ByteArray) (i : Int) (k : Nat) : (cand s i k).f1.size ≤ s.size ∧ (cand s i k).f2.size ≤ s.size ∧ (cand s i k).f4.size ≤ s.size := by
  unfold cand
  simp only [ByteArray.size_extract]
  omega
theorem all_j4 (iri : Bool) (s : ByteArray) (hs : s.size ≤ 1000000) (i : Int) (k : Nat) (hi : vi s i) (hik : i < k) (hk : k ≤ s.size) (hv : vk s k) (r : List S24)
    (nx : Ev (fun n => monikerref21_All.l1 n iri s (outAt iri s i (k + 1)) i ((k : Int) + 1)) r) (p : ByteArray) (hp : decide (k < s.size) = false → p = (cand s i k).f4) :
    Ev (fun n => monikerref21_All.j4 n iri s (outAt iri s i k) i (k : Int) (cand s i k).f0 (cand s i k).f1 (cand s i k).f2 false p) r := by
  have hz := cand_sizes s i k
  have hl := out_len iri s i k
  have hn := out_next iri s i k hi hik hk hv
  refine Ev.step (fun n => by rw [monikerref21_All.j4]) ?_
  rw [w64 (x := (k : Int) + 1) (by omega) (by omega)]
  refine Ev.ite (fun h => Ev.ite_pos (by omega) (Ev.ite_pos (by omega) ?_)) (fun h => ?_)
  · have e1 : s.extract ((k : Int) + 1).toNat s.size = (cand s i k).f4 := by
      have : ((k : Int) + 1).toNat = k + 1 := by omega
      rw [this]; rfl
    have e2 : (cand s i k).f3 = true := by
      show decide (k < s.size) = true
      rw [decide_eq_true (by omega)]
    rw [e1]
    refine Ev.bind' (refRight_f iri _ _ _ _ _ (by omega) (by omega) (by omega)) ?_
    have hgood : rightL iri (cand s i k).f0 (bytesOf (cand s i k).f1) (bytesOf (cand s i k).f2) true (bytesOf (cand s i k).f4) = good iri s i k := by
      unfold good; rw [e2]
    rw [hgood]
    refine Ev.ite (fun hg => Ev.ite_pos (by omega) ?_) (fun hg => ?_)
    · rw [if_pos hg] at hn
      have e3 : (⟨(cand s i k).f0, (cand s i k).f1, (cand s i k).f2, true, (cand s i k).f4⟩ : S24) = cand s i k := by rw [← e2]
      rw [e3, hn]
      exact nx
    · rw [if_neg hg] at hn
      rw [hn]
      exact nx
  · have e2 : (cand s i k).f3 = false := by
      show decide (k < s.size) = false
      rw [decide_eq_false (by omega)]
    rw [hp (by rw [decide_eq_false (by omega)])]
    refine Ev.bind' (refRight_f iri _ _ _ _ _ (by omega) (by omega) (by omega)) ?_
    have hgood : rightL iri (cand s i k).f0 (bytesOf (cand s i k).f1) (bytesOf (cand s i k).f2) false (bytesOf (cand s i k).f4) = good iri s i k := by
      unfold good; rw [e2]
    rw [hgood]
    refine Ev.ite (fun hg => Ev.ite_pos (by omega) ?_) (fun hg => ?_)
    · rw [if_pos hg] at hn
      have e3 : (⟨(cand s i k).f0, (cand s i k).f1, (cand s i k).f2, false, (cand s i k).f4⟩ : S24) = cand s i k := by rw [← e2]
      rw [e3, hn]
      exact nx
    · rw [if_neg hg] at hn
      rw [hn]
      exact nx
theorem all_l1 (iri : Bool) (s : ByteArray) (hs : s.size ≤ 1000000) (i : Int) (hi : vi s i) (r : List S24) (nx : Ev (fun n => monikerref21_All.l0 n iri s (outAt iri s i (s.size + 1)) (i + 1)) r) : ∀ d k : Nat, k + d = s.size + 1 → i < k →
    Ev (fun n => monikerref21_All.l1 n iri s (outAt iri s i k) i (k : Int)) r := by
  have hir : -1 ≤ i ∧ i < s.size := by rcases hi with rfl | h <;> omega
  intro d
  induction d with
  | zero =>
    intro k hk hik
    have : k = s.size + 1 := by omega
    subst this
    refine Ev.step (fun n => by rw [monikerref21_All.l1]) ?_
    rw [w64 (x := i + 1) (by omega) (by omega)]
    exact Ev.ite_neg (by omega) nx
  | succ d ih =>
    intro k hk hik
    have go := ih (k + 1) (by omega) (by omega)
    have e1 : ((k + 1 : Nat) : Int) = (k : Int) + 1 := by omega
    rw [e1] at go
    have take_ : vk s k → Ev (fun n => monikerref21_All.j3 n iri s (outAt iri s i k) i (k : Int) false) r := by
      intro hv
      refine Ev.step (fun n => by rw [monikerref21_All.j3]) ?_
      rw [w64 (x := i + 1) (by omega) (by omega)]
      refine Ev.ite_neg (by simp) (Ev.ite_pos (by omega) (Ev.ite_pos (by omega) (Ev.ite_pos (by omega) ?_)))
      have hp : decide (k < s.size) = false → (⟨#[]⟩ : ByteArray) = (cand s i k).f4 := by
        intro h
        have : ¬ k < s.size := by simpa using h
        show _ = s.extract (k + 1) s.size
        rw [extract_past s _ (by omega)]
      refine Ev.ite (fun h0 => Ev.ite_pos (by omega) (Ev.ite_pos (by omega) ?_)) (fun h0 => ?_)
      · have := all_j4 iri s hs i k hi hik (by omega) hv r go _ hp
        have f0 : (cand s i k).f0 = true := by show decide (0 ≤ i) = true; rw [decide_eq_true h0]
        rw [f0] at this
        rw [Int.toNat_natCast]
        exact this
      · have := all_j4 iri s hs i k hi hik (by omega) hv r go _ hp
        have f0 : (cand s i k).f0 = false := by show decide (0 ≤ i) = false; rw [decide_eq_false h0]
        have f1 : (cand s i k).f1 = (⟨#[]⟩ : ByteArray) := by
          show s.extract 0 i.toNat = _
          have : i.toNat = 0 := by omega
          rw [this, extract_zero]
        rw [f0, f1] at this
        rw [Int.toNat_natCast]
        exact this
    refine Ev.step (fun n => by rw [monikerref21_All.l1]) ?_
    refine Ev.ite_pos (by omega) (Ev.ite (fun h => Ev.ite_pos (by omega) ?_) (fun h => take_ (.inl (by omega))))
    by_cases h58 : bt s (k : Int) = 58
    · have : (bt s (k : Int) != 58) = false := by simp [h58]
      rw [this]
      exact take_ (.inr ⟨by omega, h58⟩)
    · have : (bt s (k : Int) != 58) = true := by simpa using h58
      rw [this]
      refine Ev.step (fun n => by rw [monikerref21_All.j3]) ?_
      refine Ev.ite_pos rfl ?_
      rw [w64 (x := (k : Int) + 1) (by omega) (by omega), out_skip iri s i k (by
        rintro ⟨_, e⟩
        rcases vk_S s with h2 | h2
        · omega
        · rw [e] at h2; exact h58 h2.2)]
      exact go
theorem all_l0 (iri : Bool) (s : ByteArray) (hs : s.size ≤ 1000000) : ∀ d n : Nat, n + d = s.size + 1 → Ev (fun q => monikerref21_All.l0 q iri s (outAt iri s ((n : Int) - 1) n) ((n : Int) - 1)) (outAt iri s s.size (s.size + 1)) := by
  intro d
  induction d with
  | zero =>
    intro n hn
    have : n = s.size + 1 := by omega
    subst this
    refine Ev.step (fun q => by rw [monikerref21_All.l0]) ?_
    refine Ev.ite_neg (by omega) (Ev.val ?_)
    congr 1; omega
  | succ d ih =>
    intro n hn
    have go := ih (n + 1) (by omega)
    have e1 : ((n + 1 : Nat) : Int) - 1 = (n : Int) - 1 + 1 := by omega
    rw [e1] at go
    have row : vi s ((n : Int) - 1) → Ev (fun q => monikerref21_All.j1 q iri s (outAt iri s ((n : Int) - 1) n) ((n : Int) - 1) false) (outAt iri s s.size (s.size + 1)) := by
      intro hv
      refine Ev.step (fun q => by rw [monikerref21_All.j1]) ?_
      refine Ev.ite_neg (by simp) ?_
      have hw : wrap64 ((n : Int) - 1 + 1) = (n : Int) := by rw [w64 (by omega) (by omega)]; omega
      simp only [hw]
      refine all_l1 iri s hs _ hv _ ?_ (s.size + 1 - n) n (by omega) (by omega)
      rw [out_row iri s ((n : Int) - 1) (s.size + 1) (n + 1) (fun _ => by have := (kS_range s).2; omega) (by omega)]
      exact go
    refine Ev.step (fun q => by rw [monikerref21_All.l0]) ?_
    refine Ev.ite_pos (by omega) (Ev.ite (fun h => Ev.ite_pos (by omega) ?_) (fun h => row (.inl (by omega))))
    by_cases h64 : bt s ((n : Int) - 1) = 64
    · have : (bt s ((n : Int) - 1) != 64) = false := by simp [h64]
      rw [this]
      exact row (.inr ⟨by omega, by omega, h64⟩)
    · have : (bt s ((n : Int) - 1) != 64) = true := by simpa using h64
      rw [this]
      refine Ev.step (fun q => by rw [monikerref21_All.j1]) ?_
      refine Ev.ite_pos rfl ?_
      rw [w64 (x := (n : Int) - 1 + 1) (by omega) (by omega), out_row iri s ((n : Int) - 1) n (n + 1) (fun e => by
        rcases vi_S s with h2 | h2
        · omega
        · rw [e] at h2; exact absurd h2.2.2 h64) (by omega)]
      exact go
theorem all_ways (iri : Bool) (s : ByteArray) (hs : s.size ≤ 1000000) : Ev (fun k => monikerref21_All.f k iri s) (if rightP iri (partS s) then [partT s] else []) := by
  unfold monikerref21_All.f
  have h := all_l0 iri s hs (s.size + 1) 0 (by omega)
  have hi := iS_range s
  have e0 : outAt iri s (((0 : Nat) : Int) - 1) 0 = [] := by
    unfold outAt
    rw [if_neg (by omega)]
  have e1 : outAt iri s s.size (s.size + 1) = if rightP iri (partS s) then [partT s] else [] := by
    have hg : good iri s (iS s) (kS s) = rightP iri (partS s) := by
      unfold good rightP
      rw [cand_S]; rfl
    unfold outAt
    rw [hg]
    by_cases hr : rightP iri (partS s) = true
    · rw [if_pos ⟨hr, .inl hi.2⟩, if_pos hr]
    · rw [if_neg (fun x => hr x.1), if_neg hr]
  rw [e0, e1] at h
  exact h
end Go.Proofs.YtdmigmccfdhdiaaDoor.Y
namespace Go.Proofs.YtdmigmccfdhdiaaDoor.Pure
open Go.RowKit Go.Proofs.YtdmigmccfdhdiaaDoor.X Go.Proofs.YtdmigmccfdhdiaaDoor.M Go.Proofs.YtdmigmccfdhdiaaDoor.Y Go.Proofs.YtdmigmccfdhdiaaDoorW.PrintWords Go.Proofs.YtdmigmccfdhdiaaDoorW.PrintLast Go.Proofs.YtdmigmccfdhdiaaDoorW.PrintMore
set_option linter.unusedVariables false
theorem SeatOne_awake : Ev (fun k => monikerlaw21_awake.f k) true := by
  unfold monikerlaw21_awake.f
  refine Ev.bind' (part_f (⟨#[117, 64, 104, 58, 56, 48]⟩ : ByteArray) (by decide)) ?_
  refine Ev.bind' (part_f (⟨#[91, 58, 58, 49, 93, 58]⟩ : ByteArray) (by decide)) ?_
  exact Ev.ret fun _ => by decide +kernel
theorem SeatOne : monikerlaw21_SeatOne.Pure := by
  intro iri s hs
  refine Ev.rounds (r := true) ?_
  unfold monikerlaw21_SeatOne.f
  have aw : Ev (fun k => (monikerlaw21_awake.f k).bind fun t => some t) true := Ev.bind' SeatOne_awake (Ev.now _)
  refine Ev.ite (fun h => aw) (fun h => ?_)
  refine Ev.bind' (parse_f iri s (by omega)) (Ev.bind' (all_ways iri s (by omega)) ?_)
  by_cases hr : rightP iri (partS s) = true
  · simp only [if_pos hr]
    refine Ev.ite_neg (by simp) (Ev.ite_pos (by simp) (Ev.ite_pos (by simp) (Ev.ite_pos (by simp) (Ev.ite_pos ?_ aw))))
    have : rd_T24 [partT s] 0 = partT s := rfl
    rw [this]
    unfold partT
    simp
  · simp only [if_neg hr]
    refine Ev.ite_pos (by simp) (Ev.ite_neg (by simp) (Ev.ite_pos ?_ aw))
    decide +kernel
end Go.Proofs.YtdmigmccfdhdiaaDoor.Pure
namespace Go.Proofs.YtdmigmccfdhdiaaDoor.seatOne
open Go.ChangeShapes Go.WideShapes Go.ChangeAt Go.RowKit
open Go.ChangeMaps (open_string shut_string)
set_option linter.unusedVariables false
set_option linter.unusedSimpArgs false
theorem own : ownKnob Tryd.prog.godebug = none := by kernel_rfl
theorem gw {W : World} (h : W.ShapedOpen Tryd.prog) : X.GW W :=
  Go.Proofs.cell_of_shapedOpen_int (g := 0) (t := 3) (zero := #[.int .i64 0]) h (of_decide_eq_true (by kernel_rfl)) (by kernel_rfl) rfl (by kernel_rfl) (by kernel_rfl) Tryd.underlying3
set_option maxRecDepth 100000 in
theorem contract (H : Type) (enc : TypeId × Value → H) (W : World) (base : Nat) (args : Array Value) (ds gs : List (DataW H)) (before : List MemPlace)
    (hval0 : ∀ (j : Nat) t v, Tryd.f3.params[j]? = some t → args[j]? = some v → Value.okWide Tryd.prog W .any base t v)
    (hW : DataW.Whole enc Tryd.prog Tryd.f3.params.toList Rows.seatOneSpec.vars false W args.toList ds gs before)
    (hsz0 : (DataW.weightsEach Tryd.prog (Tryd.f3.params.toList ++ Rows.seatOneSpec.plain.varTypes Tryd.prog) (ds ++ gs)).all (· ≤ reachBytes) = true) (hsh : W.ShapedOpen Tryd.prog) :
    Calls Tryd.prog 3 args W fun e W' => ∃ v, e = .returned v ∧ Rows.seatOneSpec.post enc Tryd.prog Tryd.f3 false true false false W args v W' := by
  have hsz : (DataW.weightsEach Tryd.prog (Tryd.f3.params.toList ++ Rows.seatOneSpec.plain.varTypes Tryd.prog) (ds ++ gs)).all (· ≤ reachBytes) = true := hsz0
  have hval : ∀ (j : Nat) t v, Tryd.f3.params[j]? = some t → args[j]? = some v → Value.okWide Tryd.prog W .any base t v := hval0
  have hW' := hW
  obtain ⟨p, q, hA0, hV, rfl, hfz, hnd⟩ := hW
  have hA : DataW.TrodAll enc Tryd.prog W 0 (fun _ => true) true Tryd.f3.params.toList args.toList ds p := hA0
  rw [Tryd.params3] at hA hval hsz
  obtain ⟨v0, vs0, d0, ds0, p0, q0, hargs, rfl, rfl, h0, r0⟩ := trodAll_cons hA
  obtain ⟨v1, vs1, d1, ds1, p1, q1, rfl, rfl, rfl, h1, r1⟩ := trodAll_cons r0
  obtain ⟨rfl, rfl, rfl⟩ := trodAll_nil r1
  obtain rfl : args = #[v0, v1] := by cases args; simp_all
  obtain ⟨rfl, rfl⟩ := trodVars_none hV
  obtain ⟨a0, rfl, rfl, rfl⟩ := open_bool Tryd.underlying4 (hval 0 4 v0 rfl rfl) h0
  obtain ⟨a1, rfl, rfl, rfl, y1⟩ := open_string Tryd.underlying9 (hval 1 9 v1 rfl rfl) h1
  have w1 : a1.size ≤ 140737488351232 := by
    have z := sized_string hsz (j := 1) (t := 9) rfl rfl
    rw [Array.length_toList] at z
    exact z
  clear hA0 hval0 hsz0 hsz
  obtain ⟨k, hk⟩ := Pure.SeatOne a0 a1 w1
  refine (X.monikerlaw21_SeatOne.calls k a0 a1 true W (gw hsh) hk).mono fun e W' ⟨he, bel0⟩ => ?_
  have bel : Below W.heap.size W W' := bel0
  subst he
  exact ⟨_, rfl, _, _, _, [], _, [], hW', trodAll_mk1 (shut_bool Tryd.underlying4 _), (trodAll_cons_mk (shut_bool Tryd.underlying4 _) (trodAll_cons_mk (shut_string Tryd.underlying9 y1) trodAll_mk0)), rfl, bel.frame _, fun h => by cases h⟩
def flat : Nat → DataW Unit → List Value
  | 0, _ => []
  | k + 1, .agg l => l.flatMap (flat k)
  | _ + 1, .lit (.int kd n) => [.int kd n]
  | _ + 1, .lit (.bool b) => [.bool b]
  | _ + 1, _ => []
def layAt (g : Nat) (cs : List Value) (h : Array Obj) : Array Obj := h.modify g fun
  | .cells _ t frozen => .cells cs.toArray t frozen
  | x => x
noncomputable def laidWorld (os : Os) : World := { World.holding Tryd.prog os ⟨#[], #[], []⟩ with heap := layAt 1 (flat 9 Rows.laid_unicode_utf8_first) (layAt 2 (flat 9 Rows.laid_unicode_utf8_acceptRanges) ((World.holding Tryd.prog os ⟨#[], #[], []⟩).heap)) }
theorem laid_met (os : Os) : laidMet Tryd.prog Rows.seatOneRow.laid ((laidWorld os).forCall (fun _ _ => 0) ⟨#[], #[.bool false, .string ByteArray.empty], []⟩).memory :=
  laidMet_of_run' 8 (by kernel_rfl) (by kernel_rfl)
theorem reads (os : Os) {H : Type} (enc : TypeId × Value → H) : ∃ places, DataW.whole enc Tryd.prog ((laidWorld os).forCall (fun _ _ => 0) ⟨#[], #[.bool false, .string ByteArray.empty], []⟩).memory Tryd.f3.params.toList Rows.seatOneSpec.vars false (#[.bool false, .string ByteArray.empty] : Array Value).toList 8 = some ([.lit (.bool false), .lit (.string [])], [], places) :=
  ⟨[], by kernel_rfl⟩
set_option maxRecDepth 100000 in
theorem lifted (os : Os) (started : os.Started) (H : Type) (enc : TypeId × Value → H) (F : Stop.Interp) :
    ReturnsInHanded {} Tryd.checked os 3 .any ((OpenSpec.ofChange Rows.seatOneSpec).preRow enc Tryd.prog Tryd.f3 Rows.seatOneRow.domain false Rows.seatOneRow.laid) (((OpenSpec.ofChange Rows.seatOneSpec).at F).post enc Tryd.prog Tryd.f3 false true false false) := by
  obtain ⟨places, hx⟩ := reads os enc
  refine returnsInHanded_of_row (C := Tryd.checked) (s := OpenSpec.ofChange Rows.seatOneSpec) own started (by kernel_rfl) Tryd.func3
    (witness_row_at (enc := enc) (C := Tryd.checked) false (laidWorld os) #[.bool false, .string ByteArray.empty] rfl (by kernel_rfl) (by kernel_rfl) (by kernel_rfl)
      (OpenSpec.preRow_of_cond 8 hx (by kernel_rfl) (fun k hk => by cases hk) (by kernel_rfl) (laid_met os))) ?_
  intro W base args ds gs before hval hW _ _ hsz hL hsh _
  exact contract H enc W base args ds gs before hval hW hsz hsh
theorem said : Rows.SeatOneSaid :=
  OpenClaim.holds_of_cond 3 Tryd.f3 rfl rfl rfl rfl rfl rfl rfl ⟨rfl, rfl, rfl, rfl, rfl⟩ rfl rfl rfl rfl rfl (by kernel_rfl) Tryd.func3 (by kernel_rfl)
    (of_decide_eq_true (by kernel_rfl)) (by unfold Func.isWrapper; first | (rw [if_pos (by decide +kernel)]; kernel_rfl) | (rw [if_neg (by decide +kernel)]; exact ⟨rfl, rfl⟩))
    (fun os started H enc _ F => by rw [OpenClaim.pre_eq_preRow]; exact lifted os started H enc F)
theorem plain (f : FuncId) (fn : Func) (hf : Tryd.pinned.checked.prog.funcNamed "moniker/monikerlaw21.SeatOne" = some f) (hfn : Tryd.pinned.checked.prog.funcs[f]? = some fn) :
    false = Tryd.pinned.checked.prog.looks [] ∧ ∀ (j : Nat) t, fn.params[j]? = some t → Tryd.pinned.checked.prog.wantsStandIn t = false := by
  obtain rfl : f = 3 := Option.some.inj ((show Tryd.prog.funcNamed "moniker/monikerlaw21.SeatOne" = some 3 by kernel_rfl).symm.trans hf) |>.symm
  obtain rfl : fn = Tryd.f3 := (Option.some.inj (Tryd.func3.symm.trans hfn)).symm
  refine ⟨by kernel_rfl, fun j t ht => ?_⟩
  rw [Tryd.params3] at ht
  have hm := Array.mem_of_getElem? ht
  simp only [List.mem_cons, List.mem_toArray, List.mem_nil_iff, or_false] at hm
  rcases hm with rfl | rfl
  · exact (show Tryd.prog.wantsStandIn 4 = false by kernel_rfl)
  · exact (show Tryd.prog.wantsStandIn 9 = false by kernel_rfl)
theorem card : Rows.SeatOneCardSaid :=
  Claim7.holds_tied_plain_at .later [] _ _ _ _ said (fun _ h => by cases h) (by kernel_rfl) (fun _ h => by cases h) seatOne_row_tie rfl ⟨rfl, rfl⟩ (by kernel_rfl) rfl plain (by kernel_rfl)
#print axioms card
end Go.Proofs.YtdmigmccfdhdiaaDoor.seatOne
namespace Go.Proofs.YtdmigmccfdhdiaaDoor
theorem seatOne_card : Rows.SeatOneCardSaid := seatOne.card
end Go.Proofs.YtdmigmccfdhdiaaDoor
