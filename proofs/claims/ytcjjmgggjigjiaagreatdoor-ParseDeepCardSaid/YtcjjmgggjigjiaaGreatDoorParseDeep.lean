/- The statement ParseDeep. No condition. -/
import Derived.Test.YtcjjmgggjigjiaaGreatDoorParseDeepA
import Derived.Test.YtcjjmgggjigjiaaGreatDoorParseDeepB
import Derived.Test.YtcjjmgggjigjiaaGreatDoorParseDeepC
import Derived.Test.YtcjjmgggjigjiaaGreatDoorParseDeepD
import Derived.Test.YtcjjmgggjigjiaaGreatDoorParseDeepE
import Derived.Test.YtcjjmgggjigjiaaGreatDoorParseDeepF
import Derived.Test.YtcjjmgggjigjiaaGreatDoorParseDeepG
import Derived.Test.YtcjjmgggjigjiaaGreatDoorParseDeepH
import Derived.ProofKit
import Derived.Lay
import Derived.LaidOnce
import Derived.Test.YtcjjmgggjigjiaaGreatDoorRows
import Derived.Test.YtcjjmgggjigjiaaGreatDoorTie
import Derived.Test.YtcjjmgggjigjiaaGreatDoorCards
namespace Go.Proofs.YtcjjmgggjigjiaaGreatDoor
open Go.RowKit Go.Am
open Go.ChangeShapes Go.WideShapes Go.ChangeAt Go.Lib
set_option maxRecDepth 100000
theorem parseDeep_at_0_0 (z : Nat) (h : z < 3) : parseDeepRun 0 0 z = true := by
  by_cases h0 : 0 ≤ z ∧ z < 3
  · have := List.all_eq_true.1 parseDeep_run_0_0_0 _ (List.mem_map.2 ⟨z - 0, List.mem_range.2 (by omega), rfl⟩)
    rwa [show Nat.add 0 (z - 0) = z from by show 0 + (z - 0) = z; omega] at this
  exfalso; omega
theorem parseDeep_at_0_1 (z : Nat) (h : z < 3) : parseDeepRun 0 1 z = true := by
  by_cases h0 : 0 ≤ z ∧ z < 3
  · have := List.all_eq_true.1 parseDeep_run_0_1_0 _ (List.mem_map.2 ⟨z - 0, List.mem_range.2 (by omega), rfl⟩)
    rwa [show Nat.add 0 (z - 0) = z from by show 0 + (z - 0) = z; omega] at this
  exfalso; omega
theorem parseDeep_at_0_2 (z : Nat) (h : z < 3) : parseDeepRun 0 2 z = true := by
  by_cases h0 : 0 ≤ z ∧ z < 3
  · have := List.all_eq_true.1 parseDeep_run_0_2_0 _ (List.mem_map.2 ⟨z - 0, List.mem_range.2 (by omega), rfl⟩)
    rwa [show Nat.add 0 (z - 0) = z from by show 0 + (z - 0) = z; omega] at this
  exfalso; omega
theorem parseDeep_at_0_3 (z : Nat) (h : z < 3) : parseDeepRun 0 3 z = true := by
  by_cases h0 : 0 ≤ z ∧ z < 3
  · have := List.all_eq_true.1 parseDeep_run_0_3_0 _ (List.mem_map.2 ⟨z - 0, List.mem_range.2 (by omega), rfl⟩)
    rwa [show Nat.add 0 (z - 0) = z from by show 0 + (z - 0) = z; omega] at this
  exfalso; omega
theorem parseDeep_at_0_4 (z : Nat) (h : z < 3) : parseDeepRun 0 4 z = true := by
  by_cases h0 : 0 ≤ z ∧ z < 3
  · have := List.all_eq_true.1 parseDeep_run_0_4_0 _ (List.mem_map.2 ⟨z - 0, List.mem_range.2 (by omega), rfl⟩)
    rwa [show Nat.add 0 (z - 0) = z from by show 0 + (z - 0) = z; omega] at this
  exfalso; omega
theorem parseDeep_at_0_5 (z : Nat) (h : z < 3) : parseDeepRun 0 5 z = true := by
  by_cases h0 : 0 ≤ z ∧ z < 3
  · have := List.all_eq_true.1 parseDeep_run_0_5_0 _ (List.mem_map.2 ⟨z - 0, List.mem_range.2 (by omega), rfl⟩)
    rwa [show Nat.add 0 (z - 0) = z from by show 0 + (z - 0) = z; omega] at this
  exfalso; omega
theorem parseDeep_at_0_6 (z : Nat) (h : z < 3) : parseDeepRun 0 6 z = true := by
  by_cases h0 : 0 ≤ z ∧ z < 3
  · have := List.all_eq_true.1 parseDeep_run_0_6_0 _ (List.mem_map.2 ⟨z - 0, List.mem_range.2 (by omega), rfl⟩)
    rwa [show Nat.add 0 (z - 0) = z from by show 0 + (z - 0) = z; omega] at this
  exfalso; omega
theorem parseDeep_at_0_7 (z : Nat) (h : z < 3) : parseDeepRun 0 7 z = true := by
  by_cases h0 : 0 ≤ z ∧ z < 3
  · have := List.all_eq_true.1 parseDeep_run_0_7_0 _ (List.mem_map.2 ⟨z - 0, List.mem_range.2 (by omega), rfl⟩)
    rwa [show Nat.add 0 (z - 0) = z from by show 0 + (z - 0) = z; omega] at this
  exfalso; omega
theorem parseDeep_at_0_8 (z : Nat) (h : z < 3) : parseDeepRun 0 8 z = true := by
  by_cases h0 : 0 ≤ z ∧ z < 3
  · have := List.all_eq_true.1 parseDeep_run_0_8_0 _ (List.mem_map.2 ⟨z - 0, List.mem_range.2 (by omega), rfl⟩)
    rwa [show Nat.add 0 (z - 0) = z from by show 0 + (z - 0) = z; omega] at this
  exfalso; omega
theorem parseDeep_at_0_9 (z : Nat) (h : z < 3) : parseDeepRun 0 9 z = true := by
  by_cases h0 : 0 ≤ z ∧ z < 3
  · have := List.all_eq_true.1 parseDeep_run_0_9_0 _ (List.mem_map.2 ⟨z - 0, List.mem_range.2 (by omega), rfl⟩)
    rwa [show Nat.add 0 (z - 0) = z from by show 0 + (z - 0) = z; omega] at this
  exfalso; omega
theorem parseDeep_at_0_10 (z : Nat) (h : z < 3) : parseDeepRun 0 10 z = true := by
  by_cases h0 : 0 ≤ z ∧ z < 3
  · have := List.all_eq_true.1 parseDeep_run_0_10_0 _ (List.mem_map.2 ⟨z - 0, List.mem_range.2 (by omega), rfl⟩)
    rwa [show Nat.add 0 (z - 0) = z from by show 0 + (z - 0) = z; omega] at this
  exfalso; omega
theorem parseDeep_at_0_11 (z : Nat) (h : z < 3) : parseDeepRun 0 11 z = true := by
  by_cases h0 : 0 ≤ z ∧ z < 3
  · have := List.all_eq_true.1 parseDeep_run_0_11_0 _ (List.mem_map.2 ⟨z - 0, List.mem_range.2 (by omega), rfl⟩)
    rwa [show Nat.add 0 (z - 0) = z from by show 0 + (z - 0) = z; omega] at this
  exfalso; omega
theorem parseDeep_at_1_0 (z : Nat) (h : z < 3) : parseDeepRun 1 0 z = true := by
  by_cases h0 : 0 ≤ z ∧ z < 3
  · have := List.all_eq_true.1 parseDeep_run_1_0_0 _ (List.mem_map.2 ⟨z - 0, List.mem_range.2 (by omega), rfl⟩)
    rwa [show Nat.add 0 (z - 0) = z from by show 0 + (z - 0) = z; omega] at this
  exfalso; omega
theorem parseDeep_at_1_1 (z : Nat) (h : z < 3) : parseDeepRun 1 1 z = true := by
  by_cases h0 : 0 ≤ z ∧ z < 3
  · have := List.all_eq_true.1 parseDeep_run_1_1_0 _ (List.mem_map.2 ⟨z - 0, List.mem_range.2 (by omega), rfl⟩)
    rwa [show Nat.add 0 (z - 0) = z from by show 0 + (z - 0) = z; omega] at this
  exfalso; omega
theorem parseDeep_at_1_2 (z : Nat) (h : z < 3) : parseDeepRun 1 2 z = true := by
  by_cases h0 : 0 ≤ z ∧ z < 3
  · have := List.all_eq_true.1 parseDeep_run_1_2_0 _ (List.mem_map.2 ⟨z - 0, List.mem_range.2 (by omega), rfl⟩)
    rwa [show Nat.add 0 (z - 0) = z from by show 0 + (z - 0) = z; omega] at this
  exfalso; omega
theorem parseDeep_at_1_3 (z : Nat) (h : z < 3) : parseDeepRun 1 3 z = true := by
  by_cases h0 : 0 ≤ z ∧ z < 3
  · have := List.all_eq_true.1 parseDeep_run_1_3_0 _ (List.mem_map.2 ⟨z - 0, List.mem_range.2 (by omega), rfl⟩)
    rwa [show Nat.add 0 (z - 0) = z from by show 0 + (z - 0) = z; omega] at this
  exfalso; omega
theorem parseDeep_at_1_4 (z : Nat) (h : z < 3) : parseDeepRun 1 4 z = true := by
  by_cases h0 : 0 ≤ z ∧ z < 3
  · have := List.all_eq_true.1 parseDeep_run_1_4_0 _ (List.mem_map.2 ⟨z - 0, List.mem_range.2 (by omega), rfl⟩)
    rwa [show Nat.add 0 (z - 0) = z from by show 0 + (z - 0) = z; omega] at this
  exfalso; omega
theorem parseDeep_at_1_5 (z : Nat) (h : z < 3) : parseDeepRun 1 5 z = true := by
  by_cases h0 : 0 ≤ z ∧ z < 3
  · have := List.all_eq_true.1 parseDeep_run_1_5_0 _ (List.mem_map.2 ⟨z - 0, List.mem_range.2 (by omega), rfl⟩)
    rwa [show Nat.add 0 (z - 0) = z from by show 0 + (z - 0) = z; omega] at this
  exfalso; omega
theorem parseDeep_at_1_6 (z : Nat) (h : z < 3) : parseDeepRun 1 6 z = true := by
  by_cases h0 : 0 ≤ z ∧ z < 3
  · have := List.all_eq_true.1 parseDeep_run_1_6_0 _ (List.mem_map.2 ⟨z - 0, List.mem_range.2 (by omega), rfl⟩)
    rwa [show Nat.add 0 (z - 0) = z from by show 0 + (z - 0) = z; omega] at this
  exfalso; omega
theorem parseDeep_at_1_7 (z : Nat) (h : z < 3) : parseDeepRun 1 7 z = true := by
  by_cases h0 : 0 ≤ z ∧ z < 3
  · have := List.all_eq_true.1 parseDeep_run_1_7_0 _ (List.mem_map.2 ⟨z - 0, List.mem_range.2 (by omega), rfl⟩)
    rwa [show Nat.add 0 (z - 0) = z from by show 0 + (z - 0) = z; omega] at this
  exfalso; omega
theorem parseDeep_at_1_8 (z : Nat) (h : z < 3) : parseDeepRun 1 8 z = true := by
  by_cases h0 : 0 ≤ z ∧ z < 3
  · have := List.all_eq_true.1 parseDeep_run_1_8_0 _ (List.mem_map.2 ⟨z - 0, List.mem_range.2 (by omega), rfl⟩)
    rwa [show Nat.add 0 (z - 0) = z from by show 0 + (z - 0) = z; omega] at this
  exfalso; omega
theorem parseDeep_at_1_9 (z : Nat) (h : z < 3) : parseDeepRun 1 9 z = true := by
  by_cases h0 : 0 ≤ z ∧ z < 3
  · have := List.all_eq_true.1 parseDeep_run_1_9_0 _ (List.mem_map.2 ⟨z - 0, List.mem_range.2 (by omega), rfl⟩)
    rwa [show Nat.add 0 (z - 0) = z from by show 0 + (z - 0) = z; omega] at this
  exfalso; omega
theorem parseDeep_at_1_10 (z : Nat) (h : z < 3) : parseDeepRun 1 10 z = true := by
  by_cases h0 : 0 ≤ z ∧ z < 3
  · have := List.all_eq_true.1 parseDeep_run_1_10_0 _ (List.mem_map.2 ⟨z - 0, List.mem_range.2 (by omega), rfl⟩)
    rwa [show Nat.add 0 (z - 0) = z from by show 0 + (z - 0) = z; omega] at this
  exfalso; omega
theorem parseDeep_at_1_11 (z : Nat) (h : z < 3) : parseDeepRun 1 11 z = true := by
  by_cases h0 : 0 ≤ z ∧ z < 3
  · have := List.all_eq_true.1 parseDeep_run_1_11_0 _ (List.mem_map.2 ⟨z - 0, List.mem_range.2 (by omega), rfl⟩)
    rwa [show Nat.add 0 (z - 0) = z from by show 0 + (z - 0) = z; omega] at this
  exfalso; omega
theorem parseDeep_at_2_0 (z : Nat) (h : z < 3) : parseDeepRun 2 0 z = true := by
  by_cases h0 : 0 ≤ z ∧ z < 3
  · have := List.all_eq_true.1 parseDeep_run_2_0_0 _ (List.mem_map.2 ⟨z - 0, List.mem_range.2 (by omega), rfl⟩)
    rwa [show Nat.add 0 (z - 0) = z from by show 0 + (z - 0) = z; omega] at this
  exfalso; omega
theorem parseDeep_at_2_1 (z : Nat) (h : z < 3) : parseDeepRun 2 1 z = true := by
  by_cases h0 : 0 ≤ z ∧ z < 3
  · have := List.all_eq_true.1 parseDeep_run_2_1_0 _ (List.mem_map.2 ⟨z - 0, List.mem_range.2 (by omega), rfl⟩)
    rwa [show Nat.add 0 (z - 0) = z from by show 0 + (z - 0) = z; omega] at this
  exfalso; omega
theorem parseDeep_at_2_2 (z : Nat) (h : z < 3) : parseDeepRun 2 2 z = true := by
  by_cases h0 : 0 ≤ z ∧ z < 3
  · have := List.all_eq_true.1 parseDeep_run_2_2_0 _ (List.mem_map.2 ⟨z - 0, List.mem_range.2 (by omega), rfl⟩)
    rwa [show Nat.add 0 (z - 0) = z from by show 0 + (z - 0) = z; omega] at this
  exfalso; omega
theorem parseDeep_at_2_3 (z : Nat) (h : z < 3) : parseDeepRun 2 3 z = true := by
  by_cases h0 : 0 ≤ z ∧ z < 3
  · have := List.all_eq_true.1 parseDeep_run_2_3_0 _ (List.mem_map.2 ⟨z - 0, List.mem_range.2 (by omega), rfl⟩)
    rwa [show Nat.add 0 (z - 0) = z from by show 0 + (z - 0) = z; omega] at this
  exfalso; omega
theorem parseDeep_at_2_4 (z : Nat) (h : z < 3) : parseDeepRun 2 4 z = true := by
  by_cases h0 : 0 ≤ z ∧ z < 3
  · have := List.all_eq_true.1 parseDeep_run_2_4_0 _ (List.mem_map.2 ⟨z - 0, List.mem_range.2 (by omega), rfl⟩)
    rwa [show Nat.add 0 (z - 0) = z from by show 0 + (z - 0) = z; omega] at this
  exfalso; omega
theorem parseDeep_at_2_5 (z : Nat) (h : z < 3) : parseDeepRun 2 5 z = true := by
  by_cases h0 : 0 ≤ z ∧ z < 3
  · have := List.all_eq_true.1 parseDeep_run_2_5_0 _ (List.mem_map.2 ⟨z - 0, List.mem_range.2 (by omega), rfl⟩)
    rwa [show Nat.add 0 (z - 0) = z from by show 0 + (z - 0) = z; omega] at this
  exfalso; omega
theorem parseDeep_at_2_6 (z : Nat) (h : z < 3) : parseDeepRun 2 6 z = true := by
  by_cases h0 : 0 ≤ z ∧ z < 3
  · have := List.all_eq_true.1 parseDeep_run_2_6_0 _ (List.mem_map.2 ⟨z - 0, List.mem_range.2 (by omega), rfl⟩)
    rwa [show Nat.add 0 (z - 0) = z from by show 0 + (z - 0) = z; omega] at this
  exfalso; omega
theorem parseDeep_at_2_7 (z : Nat) (h : z < 3) : parseDeepRun 2 7 z = true := by
  by_cases h0 : 0 ≤ z ∧ z < 3
  · have := List.all_eq_true.1 parseDeep_run_2_7_0 _ (List.mem_map.2 ⟨z - 0, List.mem_range.2 (by omega), rfl⟩)
    rwa [show Nat.add 0 (z - 0) = z from by show 0 + (z - 0) = z; omega] at this
  exfalso; omega
theorem parseDeep_at_2_8 (z : Nat) (h : z < 3) : parseDeepRun 2 8 z = true := by
  by_cases h0 : 0 ≤ z ∧ z < 3
  · have := List.all_eq_true.1 parseDeep_run_2_8_0 _ (List.mem_map.2 ⟨z - 0, List.mem_range.2 (by omega), rfl⟩)
    rwa [show Nat.add 0 (z - 0) = z from by show 0 + (z - 0) = z; omega] at this
  exfalso; omega
theorem parseDeep_at_2_9 (z : Nat) (h : z < 3) : parseDeepRun 2 9 z = true := by
  by_cases h0 : 0 ≤ z ∧ z < 3
  · have := List.all_eq_true.1 parseDeep_run_2_9_0 _ (List.mem_map.2 ⟨z - 0, List.mem_range.2 (by omega), rfl⟩)
    rwa [show Nat.add 0 (z - 0) = z from by show 0 + (z - 0) = z; omega] at this
  exfalso; omega
theorem parseDeep_at_2_10 (z : Nat) (h : z < 3) : parseDeepRun 2 10 z = true := by
  by_cases h0 : 0 ≤ z ∧ z < 3
  · have := List.all_eq_true.1 parseDeep_run_2_10_0 _ (List.mem_map.2 ⟨z - 0, List.mem_range.2 (by omega), rfl⟩)
    rwa [show Nat.add 0 (z - 0) = z from by show 0 + (z - 0) = z; omega] at this
  exfalso; omega
theorem parseDeep_at_2_11 (z : Nat) (h : z < 3) : parseDeepRun 2 11 z = true := by
  by_cases h0 : 0 ≤ z ∧ z < 3
  · have := List.all_eq_true.1 parseDeep_run_2_11_0 _ (List.mem_map.2 ⟨z - 0, List.mem_range.2 (by omega), rfl⟩)
    rwa [show Nat.add 0 (z - 0) = z from by show 0 + (z - 0) = z; omega] at this
  exfalso; omega
theorem parseDeep_at_3_0 (z : Nat) (h : z < 3) : parseDeepRun 3 0 z = true := by
  by_cases h0 : 0 ≤ z ∧ z < 3
  · have := List.all_eq_true.1 parseDeep_run_3_0_0 _ (List.mem_map.2 ⟨z - 0, List.mem_range.2 (by omega), rfl⟩)
    rwa [show Nat.add 0 (z - 0) = z from by show 0 + (z - 0) = z; omega] at this
  exfalso; omega
theorem parseDeep_at_3_1 (z : Nat) (h : z < 3) : parseDeepRun 3 1 z = true := by
  by_cases h0 : 0 ≤ z ∧ z < 3
  · have := List.all_eq_true.1 parseDeep_run_3_1_0 _ (List.mem_map.2 ⟨z - 0, List.mem_range.2 (by omega), rfl⟩)
    rwa [show Nat.add 0 (z - 0) = z from by show 0 + (z - 0) = z; omega] at this
  exfalso; omega
theorem parseDeep_at_3_2 (z : Nat) (h : z < 3) : parseDeepRun 3 2 z = true := by
  by_cases h0 : 0 ≤ z ∧ z < 3
  · have := List.all_eq_true.1 parseDeep_run_3_2_0 _ (List.mem_map.2 ⟨z - 0, List.mem_range.2 (by omega), rfl⟩)
    rwa [show Nat.add 0 (z - 0) = z from by show 0 + (z - 0) = z; omega] at this
  exfalso; omega
theorem parseDeep_at_3_3 (z : Nat) (h : z < 3) : parseDeepRun 3 3 z = true := by
  by_cases h0 : 0 ≤ z ∧ z < 3
  · have := List.all_eq_true.1 parseDeep_run_3_3_0 _ (List.mem_map.2 ⟨z - 0, List.mem_range.2 (by omega), rfl⟩)
    rwa [show Nat.add 0 (z - 0) = z from by show 0 + (z - 0) = z; omega] at this
  exfalso; omega
theorem parseDeep_at_3_4 (z : Nat) (h : z < 3) : parseDeepRun 3 4 z = true := by
  by_cases h0 : 0 ≤ z ∧ z < 3
  · have := List.all_eq_true.1 parseDeep_run_3_4_0 _ (List.mem_map.2 ⟨z - 0, List.mem_range.2 (by omega), rfl⟩)
    rwa [show Nat.add 0 (z - 0) = z from by show 0 + (z - 0) = z; omega] at this
  exfalso; omega
theorem parseDeep_at_3_5 (z : Nat) (h : z < 3) : parseDeepRun 3 5 z = true := by
  by_cases h0 : 0 ≤ z ∧ z < 3
  · have := List.all_eq_true.1 parseDeep_run_3_5_0 _ (List.mem_map.2 ⟨z - 0, List.mem_range.2 (by omega), rfl⟩)
    rwa [show Nat.add 0 (z - 0) = z from by show 0 + (z - 0) = z; omega] at this
  exfalso; omega
theorem parseDeep_at_3_6 (z : Nat) (h : z < 3) : parseDeepRun 3 6 z = true := by
  by_cases h0 : 0 ≤ z ∧ z < 3
  · have := List.all_eq_true.1 parseDeep_run_3_6_0 _ (List.mem_map.2 ⟨z - 0, List.mem_range.2 (by omega), rfl⟩)
    rwa [show Nat.add 0 (z - 0) = z from by show 0 + (z - 0) = z; omega] at this
  exfalso; omega
theorem parseDeep_at_3_7 (z : Nat) (h : z < 3) : parseDeepRun 3 7 z = true := by
  by_cases h0 : 0 ≤ z ∧ z < 3
  · have := List.all_eq_true.1 parseDeep_run_3_7_0 _ (List.mem_map.2 ⟨z - 0, List.mem_range.2 (by omega), rfl⟩)
    rwa [show Nat.add 0 (z - 0) = z from by show 0 + (z - 0) = z; omega] at this
  exfalso; omega
theorem parseDeep_at_3_8 (z : Nat) (h : z < 3) : parseDeepRun 3 8 z = true := by
  by_cases h0 : 0 ≤ z ∧ z < 3
  · have := List.all_eq_true.1 parseDeep_run_3_8_0 _ (List.mem_map.2 ⟨z - 0, List.mem_range.2 (by omega), rfl⟩)
    rwa [show Nat.add 0 (z - 0) = z from by show 0 + (z - 0) = z; omega] at this
  exfalso; omega
theorem parseDeep_at_3_9 (z : Nat) (h : z < 3) : parseDeepRun 3 9 z = true := by
  by_cases h0 : 0 ≤ z ∧ z < 3
  · have := List.all_eq_true.1 parseDeep_run_3_9_0 _ (List.mem_map.2 ⟨z - 0, List.mem_range.2 (by omega), rfl⟩)
    rwa [show Nat.add 0 (z - 0) = z from by show 0 + (z - 0) = z; omega] at this
  exfalso; omega
theorem parseDeep_at_3_10 (z : Nat) (h : z < 3) : parseDeepRun 3 10 z = true := by
  by_cases h0 : 0 ≤ z ∧ z < 3
  · have := List.all_eq_true.1 parseDeep_run_3_10_0 _ (List.mem_map.2 ⟨z - 0, List.mem_range.2 (by omega), rfl⟩)
    rwa [show Nat.add 0 (z - 0) = z from by show 0 + (z - 0) = z; omega] at this
  exfalso; omega
theorem parseDeep_at_3_11 (z : Nat) (h : z < 3) : parseDeepRun 3 11 z = true := by
  by_cases h0 : 0 ≤ z ∧ z < 3
  · have := List.all_eq_true.1 parseDeep_run_3_11_0 _ (List.mem_map.2 ⟨z - 0, List.mem_range.2 (by omega), rfl⟩)
    rwa [show Nat.add 0 (z - 0) = z from by show 0 + (z - 0) = z; omega] at this
  exfalso; omega
theorem parseDeep_at_4_0 (z : Nat) (h : z < 3) : parseDeepRun 4 0 z = true := by
  by_cases h0 : 0 ≤ z ∧ z < 3
  · have := List.all_eq_true.1 parseDeep_run_4_0_0 _ (List.mem_map.2 ⟨z - 0, List.mem_range.2 (by omega), rfl⟩)
    rwa [show Nat.add 0 (z - 0) = z from by show 0 + (z - 0) = z; omega] at this
  exfalso; omega
theorem parseDeep_at_4_1 (z : Nat) (h : z < 3) : parseDeepRun 4 1 z = true := by
  by_cases h0 : 0 ≤ z ∧ z < 3
  · have := List.all_eq_true.1 parseDeep_run_4_1_0 _ (List.mem_map.2 ⟨z - 0, List.mem_range.2 (by omega), rfl⟩)
    rwa [show Nat.add 0 (z - 0) = z from by show 0 + (z - 0) = z; omega] at this
  exfalso; omega
theorem parseDeep_at_4_2 (z : Nat) (h : z < 3) : parseDeepRun 4 2 z = true := by
  by_cases h0 : 0 ≤ z ∧ z < 3
  · have := List.all_eq_true.1 parseDeep_run_4_2_0 _ (List.mem_map.2 ⟨z - 0, List.mem_range.2 (by omega), rfl⟩)
    rwa [show Nat.add 0 (z - 0) = z from by show 0 + (z - 0) = z; omega] at this
  exfalso; omega
theorem parseDeep_at_4_3 (z : Nat) (h : z < 3) : parseDeepRun 4 3 z = true := by
  by_cases h0 : 0 ≤ z ∧ z < 3
  · have := List.all_eq_true.1 parseDeep_run_4_3_0 _ (List.mem_map.2 ⟨z - 0, List.mem_range.2 (by omega), rfl⟩)
    rwa [show Nat.add 0 (z - 0) = z from by show 0 + (z - 0) = z; omega] at this
  exfalso; omega
theorem parseDeep_at_4_4 (z : Nat) (h : z < 3) : parseDeepRun 4 4 z = true := by
  by_cases h0 : 0 ≤ z ∧ z < 3
  · have := List.all_eq_true.1 parseDeep_run_4_4_0 _ (List.mem_map.2 ⟨z - 0, List.mem_range.2 (by omega), rfl⟩)
    rwa [show Nat.add 0 (z - 0) = z from by show 0 + (z - 0) = z; omega] at this
  exfalso; omega
theorem parseDeep_at_4_5 (z : Nat) (h : z < 3) : parseDeepRun 4 5 z = true := by
  by_cases h0 : 0 ≤ z ∧ z < 3
  · have := List.all_eq_true.1 parseDeep_run_4_5_0 _ (List.mem_map.2 ⟨z - 0, List.mem_range.2 (by omega), rfl⟩)
    rwa [show Nat.add 0 (z - 0) = z from by show 0 + (z - 0) = z; omega] at this
  exfalso; omega
theorem parseDeep_at_4_6 (z : Nat) (h : z < 3) : parseDeepRun 4 6 z = true := by
  by_cases h0 : 0 ≤ z ∧ z < 3
  · have := List.all_eq_true.1 parseDeep_run_4_6_0 _ (List.mem_map.2 ⟨z - 0, List.mem_range.2 (by omega), rfl⟩)
    rwa [show Nat.add 0 (z - 0) = z from by show 0 + (z - 0) = z; omega] at this
  exfalso; omega
theorem parseDeep_at_4_7 (z : Nat) (h : z < 3) : parseDeepRun 4 7 z = true := by
  by_cases h0 : 0 ≤ z ∧ z < 3
  · have := List.all_eq_true.1 parseDeep_run_4_7_0 _ (List.mem_map.2 ⟨z - 0, List.mem_range.2 (by omega), rfl⟩)
    rwa [show Nat.add 0 (z - 0) = z from by show 0 + (z - 0) = z; omega] at this
  exfalso; omega
theorem parseDeep_at_4_8 (z : Nat) (h : z < 3) : parseDeepRun 4 8 z = true := by
  by_cases h0 : 0 ≤ z ∧ z < 3
  · have := List.all_eq_true.1 parseDeep_run_4_8_0 _ (List.mem_map.2 ⟨z - 0, List.mem_range.2 (by omega), rfl⟩)
    rwa [show Nat.add 0 (z - 0) = z from by show 0 + (z - 0) = z; omega] at this
  exfalso; omega
theorem parseDeep_at_4_9 (z : Nat) (h : z < 3) : parseDeepRun 4 9 z = true := by
  by_cases h0 : 0 ≤ z ∧ z < 3
  · have := List.all_eq_true.1 parseDeep_run_4_9_0 _ (List.mem_map.2 ⟨z - 0, List.mem_range.2 (by omega), rfl⟩)
    rwa [show Nat.add 0 (z - 0) = z from by show 0 + (z - 0) = z; omega] at this
  exfalso; omega
theorem parseDeep_at_4_10 (z : Nat) (h : z < 3) : parseDeepRun 4 10 z = true := by
  by_cases h0 : 0 ≤ z ∧ z < 3
  · have := List.all_eq_true.1 parseDeep_run_4_10_0 _ (List.mem_map.2 ⟨z - 0, List.mem_range.2 (by omega), rfl⟩)
    rwa [show Nat.add 0 (z - 0) = z from by show 0 + (z - 0) = z; omega] at this
  exfalso; omega
theorem parseDeep_at_4_11 (z : Nat) (h : z < 3) : parseDeepRun 4 11 z = true := by
  by_cases h0 : 0 ≤ z ∧ z < 3
  · have := List.all_eq_true.1 parseDeep_run_4_11_0 _ (List.mem_map.2 ⟨z - 0, List.mem_range.2 (by omega), rfl⟩)
    rwa [show Nat.add 0 (z - 0) = z from by show 0 + (z - 0) = z; omega] at this
  exfalso; omega
theorem parseDeep_at_5_0 (z : Nat) (h : z < 3) : parseDeepRun 5 0 z = true := by
  by_cases h0 : 0 ≤ z ∧ z < 3
  · have := List.all_eq_true.1 parseDeep_run_5_0_0 _ (List.mem_map.2 ⟨z - 0, List.mem_range.2 (by omega), rfl⟩)
    rwa [show Nat.add 0 (z - 0) = z from by show 0 + (z - 0) = z; omega] at this
  exfalso; omega
theorem parseDeep_at_5_1 (z : Nat) (h : z < 3) : parseDeepRun 5 1 z = true := by
  by_cases h0 : 0 ≤ z ∧ z < 3
  · have := List.all_eq_true.1 parseDeep_run_5_1_0 _ (List.mem_map.2 ⟨z - 0, List.mem_range.2 (by omega), rfl⟩)
    rwa [show Nat.add 0 (z - 0) = z from by show 0 + (z - 0) = z; omega] at this
  exfalso; omega
theorem parseDeep_at_5_2 (z : Nat) (h : z < 3) : parseDeepRun 5 2 z = true := by
  by_cases h0 : 0 ≤ z ∧ z < 3
  · have := List.all_eq_true.1 parseDeep_run_5_2_0 _ (List.mem_map.2 ⟨z - 0, List.mem_range.2 (by omega), rfl⟩)
    rwa [show Nat.add 0 (z - 0) = z from by show 0 + (z - 0) = z; omega] at this
  exfalso; omega
theorem parseDeep_at_5_3 (z : Nat) (h : z < 3) : parseDeepRun 5 3 z = true := by
  by_cases h0 : 0 ≤ z ∧ z < 3
  · have := List.all_eq_true.1 parseDeep_run_5_3_0 _ (List.mem_map.2 ⟨z - 0, List.mem_range.2 (by omega), rfl⟩)
    rwa [show Nat.add 0 (z - 0) = z from by show 0 + (z - 0) = z; omega] at this
  exfalso; omega
theorem parseDeep_at_5_4 (z : Nat) (h : z < 3) : parseDeepRun 5 4 z = true := by
  by_cases h0 : 0 ≤ z ∧ z < 3
  · have := List.all_eq_true.1 parseDeep_run_5_4_0 _ (List.mem_map.2 ⟨z - 0, List.mem_range.2 (by omega), rfl⟩)
    rwa [show Nat.add 0 (z - 0) = z from by show 0 + (z - 0) = z; omega] at this
  exfalso; omega
theorem parseDeep_at_5_5 (z : Nat) (h : z < 3) : parseDeepRun 5 5 z = true := by
  by_cases h0 : 0 ≤ z ∧ z < 3
  · have := List.all_eq_true.1 parseDeep_run_5_5_0 _ (List.mem_map.2 ⟨z - 0, List.mem_range.2 (by omega), rfl⟩)
    rwa [show Nat.add 0 (z - 0) = z from by show 0 + (z - 0) = z; omega] at this
  exfalso; omega
theorem parseDeep_at_5_6 (z : Nat) (h : z < 3) : parseDeepRun 5 6 z = true := by
  by_cases h0 : 0 ≤ z ∧ z < 3
  · have := List.all_eq_true.1 parseDeep_run_5_6_0 _ (List.mem_map.2 ⟨z - 0, List.mem_range.2 (by omega), rfl⟩)
    rwa [show Nat.add 0 (z - 0) = z from by show 0 + (z - 0) = z; omega] at this
  exfalso; omega
theorem parseDeep_at_5_7 (z : Nat) (h : z < 3) : parseDeepRun 5 7 z = true := by
  by_cases h0 : 0 ≤ z ∧ z < 3
  · have := List.all_eq_true.1 parseDeep_run_5_7_0 _ (List.mem_map.2 ⟨z - 0, List.mem_range.2 (by omega), rfl⟩)
    rwa [show Nat.add 0 (z - 0) = z from by show 0 + (z - 0) = z; omega] at this
  exfalso; omega
theorem parseDeep_at_5_8 (z : Nat) (h : z < 3) : parseDeepRun 5 8 z = true := by
  by_cases h0 : 0 ≤ z ∧ z < 3
  · have := List.all_eq_true.1 parseDeep_run_5_8_0 _ (List.mem_map.2 ⟨z - 0, List.mem_range.2 (by omega), rfl⟩)
    rwa [show Nat.add 0 (z - 0) = z from by show 0 + (z - 0) = z; omega] at this
  exfalso; omega
theorem parseDeep_at_5_9 (z : Nat) (h : z < 3) : parseDeepRun 5 9 z = true := by
  by_cases h0 : 0 ≤ z ∧ z < 3
  · have := List.all_eq_true.1 parseDeep_run_5_9_0 _ (List.mem_map.2 ⟨z - 0, List.mem_range.2 (by omega), rfl⟩)
    rwa [show Nat.add 0 (z - 0) = z from by show 0 + (z - 0) = z; omega] at this
  exfalso; omega
theorem parseDeep_at_5_10 (z : Nat) (h : z < 3) : parseDeepRun 5 10 z = true := by
  by_cases h0 : 0 ≤ z ∧ z < 3
  · have := List.all_eq_true.1 parseDeep_run_5_10_0 _ (List.mem_map.2 ⟨z - 0, List.mem_range.2 (by omega), rfl⟩)
    rwa [show Nat.add 0 (z - 0) = z from by show 0 + (z - 0) = z; omega] at this
  exfalso; omega
theorem parseDeep_at_5_11 (z : Nat) (h : z < 3) : parseDeepRun 5 11 z = true := by
  by_cases h0 : 0 ≤ z ∧ z < 3
  · have := List.all_eq_true.1 parseDeep_run_5_11_0 _ (List.mem_map.2 ⟨z - 0, List.mem_range.2 (by omega), rfl⟩)
    rwa [show Nat.add 0 (z - 0) = z from by show 0 + (z - 0) = z; omega] at this
  exfalso; omega
theorem parseDeep_at_6_0 (z : Nat) (h : z < 3) : parseDeepRun 6 0 z = true := by
  by_cases h0 : 0 ≤ z ∧ z < 3
  · have := List.all_eq_true.1 parseDeep_run_6_0_0 _ (List.mem_map.2 ⟨z - 0, List.mem_range.2 (by omega), rfl⟩)
    rwa [show Nat.add 0 (z - 0) = z from by show 0 + (z - 0) = z; omega] at this
  exfalso; omega
theorem parseDeep_at_6_1 (z : Nat) (h : z < 3) : parseDeepRun 6 1 z = true := by
  by_cases h0 : 0 ≤ z ∧ z < 3
  · have := List.all_eq_true.1 parseDeep_run_6_1_0 _ (List.mem_map.2 ⟨z - 0, List.mem_range.2 (by omega), rfl⟩)
    rwa [show Nat.add 0 (z - 0) = z from by show 0 + (z - 0) = z; omega] at this
  exfalso; omega
theorem parseDeep_at_6_2 (z : Nat) (h : z < 3) : parseDeepRun 6 2 z = true := by
  by_cases h0 : 0 ≤ z ∧ z < 3
  · have := List.all_eq_true.1 parseDeep_run_6_2_0 _ (List.mem_map.2 ⟨z - 0, List.mem_range.2 (by omega), rfl⟩)
    rwa [show Nat.add 0 (z - 0) = z from by show 0 + (z - 0) = z; omega] at this
  exfalso; omega
theorem parseDeep_at_6_3 (z : Nat) (h : z < 3) : parseDeepRun 6 3 z = true := by
  by_cases h0 : 0 ≤ z ∧ z < 3
  · have := List.all_eq_true.1 parseDeep_run_6_3_0 _ (List.mem_map.2 ⟨z - 0, List.mem_range.2 (by omega), rfl⟩)
    rwa [show Nat.add 0 (z - 0) = z from by show 0 + (z - 0) = z; omega] at this
  exfalso; omega
theorem parseDeep_at_6_4 (z : Nat) (h : z < 3) : parseDeepRun 6 4 z = true := by
  by_cases h0 : 0 ≤ z ∧ z < 3
  · have := List.all_eq_true.1 parseDeep_run_6_4_0 _ (List.mem_map.2 ⟨z - 0, List.mem_range.2 (by omega), rfl⟩)
    rwa [show Nat.add 0 (z - 0) = z from by show 0 + (z - 0) = z; omega] at this
  exfalso; omega
theorem parseDeep_at_6_5 (z : Nat) (h : z < 3) : parseDeepRun 6 5 z = true := by
  by_cases h0 : 0 ≤ z ∧ z < 3
  · have := List.all_eq_true.1 parseDeep_run_6_5_0 _ (List.mem_map.2 ⟨z - 0, List.mem_range.2 (by omega), rfl⟩)
    rwa [show Nat.add 0 (z - 0) = z from by show 0 + (z - 0) = z; omega] at this
  exfalso; omega
theorem parseDeep_at_6_6 (z : Nat) (h : z < 3) : parseDeepRun 6 6 z = true := by
  by_cases h0 : 0 ≤ z ∧ z < 3
  · have := List.all_eq_true.1 parseDeep_run_6_6_0 _ (List.mem_map.2 ⟨z - 0, List.mem_range.2 (by omega), rfl⟩)
    rwa [show Nat.add 0 (z - 0) = z from by show 0 + (z - 0) = z; omega] at this
  exfalso; omega
theorem parseDeep_at_6_7 (z : Nat) (h : z < 3) : parseDeepRun 6 7 z = true := by
  by_cases h0 : 0 ≤ z ∧ z < 3
  · have := List.all_eq_true.1 parseDeep_run_6_7_0 _ (List.mem_map.2 ⟨z - 0, List.mem_range.2 (by omega), rfl⟩)
    rwa [show Nat.add 0 (z - 0) = z from by show 0 + (z - 0) = z; omega] at this
  exfalso; omega
theorem parseDeep_at_6_8 (z : Nat) (h : z < 3) : parseDeepRun 6 8 z = true := by
  by_cases h0 : 0 ≤ z ∧ z < 3
  · have := List.all_eq_true.1 parseDeep_run_6_8_0 _ (List.mem_map.2 ⟨z - 0, List.mem_range.2 (by omega), rfl⟩)
    rwa [show Nat.add 0 (z - 0) = z from by show 0 + (z - 0) = z; omega] at this
  exfalso; omega
theorem parseDeep_at_6_9 (z : Nat) (h : z < 3) : parseDeepRun 6 9 z = true := by
  by_cases h0 : 0 ≤ z ∧ z < 3
  · have := List.all_eq_true.1 parseDeep_run_6_9_0 _ (List.mem_map.2 ⟨z - 0, List.mem_range.2 (by omega), rfl⟩)
    rwa [show Nat.add 0 (z - 0) = z from by show 0 + (z - 0) = z; omega] at this
  exfalso; omega
theorem parseDeep_at_6_10 (z : Nat) (h : z < 3) : parseDeepRun 6 10 z = true := by
  by_cases h0 : 0 ≤ z ∧ z < 3
  · have := List.all_eq_true.1 parseDeep_run_6_10_0 _ (List.mem_map.2 ⟨z - 0, List.mem_range.2 (by omega), rfl⟩)
    rwa [show Nat.add 0 (z - 0) = z from by show 0 + (z - 0) = z; omega] at this
  exfalso; omega
theorem parseDeep_at_6_11 (z : Nat) (h : z < 3) : parseDeepRun 6 11 z = true := by
  by_cases h0 : 0 ≤ z ∧ z < 3
  · have := List.all_eq_true.1 parseDeep_run_6_11_0 _ (List.mem_map.2 ⟨z - 0, List.mem_range.2 (by omega), rfl⟩)
    rwa [show Nat.add 0 (z - 0) = z from by show 0 + (z - 0) = z; omega] at this
  exfalso; omega
theorem parseDeep_at_7_0 (z : Nat) (h : z < 3) : parseDeepRun 7 0 z = true := by
  by_cases h0 : 0 ≤ z ∧ z < 3
  · have := List.all_eq_true.1 parseDeep_run_7_0_0 _ (List.mem_map.2 ⟨z - 0, List.mem_range.2 (by omega), rfl⟩)
    rwa [show Nat.add 0 (z - 0) = z from by show 0 + (z - 0) = z; omega] at this
  exfalso; omega
theorem parseDeep_at_7_1 (z : Nat) (h : z < 3) : parseDeepRun 7 1 z = true := by
  by_cases h0 : 0 ≤ z ∧ z < 3
  · have := List.all_eq_true.1 parseDeep_run_7_1_0 _ (List.mem_map.2 ⟨z - 0, List.mem_range.2 (by omega), rfl⟩)
    rwa [show Nat.add 0 (z - 0) = z from by show 0 + (z - 0) = z; omega] at this
  exfalso; omega
theorem parseDeep_at_7_2 (z : Nat) (h : z < 3) : parseDeepRun 7 2 z = true := by
  by_cases h0 : 0 ≤ z ∧ z < 3
  · have := List.all_eq_true.1 parseDeep_run_7_2_0 _ (List.mem_map.2 ⟨z - 0, List.mem_range.2 (by omega), rfl⟩)
    rwa [show Nat.add 0 (z - 0) = z from by show 0 + (z - 0) = z; omega] at this
  exfalso; omega
theorem parseDeep_at_7_3 (z : Nat) (h : z < 3) : parseDeepRun 7 3 z = true := by
  by_cases h0 : 0 ≤ z ∧ z < 3
  · have := List.all_eq_true.1 parseDeep_run_7_3_0 _ (List.mem_map.2 ⟨z - 0, List.mem_range.2 (by omega), rfl⟩)
    rwa [show Nat.add 0 (z - 0) = z from by show 0 + (z - 0) = z; omega] at this
  exfalso; omega
theorem parseDeep_at_7_4 (z : Nat) (h : z < 3) : parseDeepRun 7 4 z = true := by
  by_cases h0 : 0 ≤ z ∧ z < 3
  · have := List.all_eq_true.1 parseDeep_run_7_4_0 _ (List.mem_map.2 ⟨z - 0, List.mem_range.2 (by omega), rfl⟩)
    rwa [show Nat.add 0 (z - 0) = z from by show 0 + (z - 0) = z; omega] at this
  exfalso; omega
theorem parseDeep_at_7_5 (z : Nat) (h : z < 3) : parseDeepRun 7 5 z = true := by
  by_cases h0 : 0 ≤ z ∧ z < 3
  · have := List.all_eq_true.1 parseDeep_run_7_5_0 _ (List.mem_map.2 ⟨z - 0, List.mem_range.2 (by omega), rfl⟩)
    rwa [show Nat.add 0 (z - 0) = z from by show 0 + (z - 0) = z; omega] at this
  exfalso; omega
theorem parseDeep_at_7_6 (z : Nat) (h : z < 3) : parseDeepRun 7 6 z = true := by
  by_cases h0 : 0 ≤ z ∧ z < 3
  · have := List.all_eq_true.1 parseDeep_run_7_6_0 _ (List.mem_map.2 ⟨z - 0, List.mem_range.2 (by omega), rfl⟩)
    rwa [show Nat.add 0 (z - 0) = z from by show 0 + (z - 0) = z; omega] at this
  exfalso; omega
theorem parseDeep_at_7_7 (z : Nat) (h : z < 3) : parseDeepRun 7 7 z = true := by
  by_cases h0 : 0 ≤ z ∧ z < 3
  · have := List.all_eq_true.1 parseDeep_run_7_7_0 _ (List.mem_map.2 ⟨z - 0, List.mem_range.2 (by omega), rfl⟩)
    rwa [show Nat.add 0 (z - 0) = z from by show 0 + (z - 0) = z; omega] at this
  exfalso; omega
theorem parseDeep_at_7_8 (z : Nat) (h : z < 3) : parseDeepRun 7 8 z = true := by
  by_cases h0 : 0 ≤ z ∧ z < 3
  · have := List.all_eq_true.1 parseDeep_run_7_8_0 _ (List.mem_map.2 ⟨z - 0, List.mem_range.2 (by omega), rfl⟩)
    rwa [show Nat.add 0 (z - 0) = z from by show 0 + (z - 0) = z; omega] at this
  exfalso; omega
theorem parseDeep_at_7_9 (z : Nat) (h : z < 3) : parseDeepRun 7 9 z = true := by
  by_cases h0 : 0 ≤ z ∧ z < 3
  · have := List.all_eq_true.1 parseDeep_run_7_9_0 _ (List.mem_map.2 ⟨z - 0, List.mem_range.2 (by omega), rfl⟩)
    rwa [show Nat.add 0 (z - 0) = z from by show 0 + (z - 0) = z; omega] at this
  exfalso; omega
theorem parseDeep_at_7_10 (z : Nat) (h : z < 3) : parseDeepRun 7 10 z = true := by
  by_cases h0 : 0 ≤ z ∧ z < 3
  · have := List.all_eq_true.1 parseDeep_run_7_10_0 _ (List.mem_map.2 ⟨z - 0, List.mem_range.2 (by omega), rfl⟩)
    rwa [show Nat.add 0 (z - 0) = z from by show 0 + (z - 0) = z; omega] at this
  exfalso; omega
theorem parseDeep_at_7_11 (z : Nat) (h : z < 3) : parseDeepRun 7 11 z = true := by
  by_cases h0 : 0 ≤ z ∧ z < 3
  · have := List.all_eq_true.1 parseDeep_run_7_11_0 _ (List.mem_map.2 ⟨z - 0, List.mem_range.2 (by omega), rfl⟩)
    rwa [show Nat.add 0 (z - 0) = z from by show 0 + (z - 0) = z; omega] at this
  exfalso; omega
theorem parseDeep_at_8_0 (z : Nat) (h : z < 3) : parseDeepRun 8 0 z = true := by
  by_cases h0 : 0 ≤ z ∧ z < 3
  · have := List.all_eq_true.1 parseDeep_run_8_0_0 _ (List.mem_map.2 ⟨z - 0, List.mem_range.2 (by omega), rfl⟩)
    rwa [show Nat.add 0 (z - 0) = z from by show 0 + (z - 0) = z; omega] at this
  exfalso; omega
theorem parseDeep_at_8_1 (z : Nat) (h : z < 3) : parseDeepRun 8 1 z = true := by
  by_cases h0 : 0 ≤ z ∧ z < 3
  · have := List.all_eq_true.1 parseDeep_run_8_1_0 _ (List.mem_map.2 ⟨z - 0, List.mem_range.2 (by omega), rfl⟩)
    rwa [show Nat.add 0 (z - 0) = z from by show 0 + (z - 0) = z; omega] at this
  exfalso; omega
theorem parseDeep_at_8_2 (z : Nat) (h : z < 3) : parseDeepRun 8 2 z = true := by
  by_cases h0 : 0 ≤ z ∧ z < 3
  · have := List.all_eq_true.1 parseDeep_run_8_2_0 _ (List.mem_map.2 ⟨z - 0, List.mem_range.2 (by omega), rfl⟩)
    rwa [show Nat.add 0 (z - 0) = z from by show 0 + (z - 0) = z; omega] at this
  exfalso; omega
theorem parseDeep_at_8_3 (z : Nat) (h : z < 3) : parseDeepRun 8 3 z = true := by
  by_cases h0 : 0 ≤ z ∧ z < 3
  · have := List.all_eq_true.1 parseDeep_run_8_3_0 _ (List.mem_map.2 ⟨z - 0, List.mem_range.2 (by omega), rfl⟩)
    rwa [show Nat.add 0 (z - 0) = z from by show 0 + (z - 0) = z; omega] at this
  exfalso; omega
theorem parseDeep_at_8_4 (z : Nat) (h : z < 3) : parseDeepRun 8 4 z = true := by
  by_cases h0 : 0 ≤ z ∧ z < 3
  · have := List.all_eq_true.1 parseDeep_run_8_4_0 _ (List.mem_map.2 ⟨z - 0, List.mem_range.2 (by omega), rfl⟩)
    rwa [show Nat.add 0 (z - 0) = z from by show 0 + (z - 0) = z; omega] at this
  exfalso; omega
theorem parseDeep_at_8_5 (z : Nat) (h : z < 3) : parseDeepRun 8 5 z = true := by
  by_cases h0 : 0 ≤ z ∧ z < 3
  · have := List.all_eq_true.1 parseDeep_run_8_5_0 _ (List.mem_map.2 ⟨z - 0, List.mem_range.2 (by omega), rfl⟩)
    rwa [show Nat.add 0 (z - 0) = z from by show 0 + (z - 0) = z; omega] at this
  exfalso; omega
theorem parseDeep_at_8_6 (z : Nat) (h : z < 3) : parseDeepRun 8 6 z = true := by
  by_cases h0 : 0 ≤ z ∧ z < 3
  · have := List.all_eq_true.1 parseDeep_run_8_6_0 _ (List.mem_map.2 ⟨z - 0, List.mem_range.2 (by omega), rfl⟩)
    rwa [show Nat.add 0 (z - 0) = z from by show 0 + (z - 0) = z; omega] at this
  exfalso; omega
theorem parseDeep_at_8_7 (z : Nat) (h : z < 3) : parseDeepRun 8 7 z = true := by
  by_cases h0 : 0 ≤ z ∧ z < 3
  · have := List.all_eq_true.1 parseDeep_run_8_7_0 _ (List.mem_map.2 ⟨z - 0, List.mem_range.2 (by omega), rfl⟩)
    rwa [show Nat.add 0 (z - 0) = z from by show 0 + (z - 0) = z; omega] at this
  exfalso; omega
theorem parseDeep_at_8_8 (z : Nat) (h : z < 3) : parseDeepRun 8 8 z = true := by
  by_cases h0 : 0 ≤ z ∧ z < 3
  · have := List.all_eq_true.1 parseDeep_run_8_8_0 _ (List.mem_map.2 ⟨z - 0, List.mem_range.2 (by omega), rfl⟩)
    rwa [show Nat.add 0 (z - 0) = z from by show 0 + (z - 0) = z; omega] at this
  exfalso; omega
theorem parseDeep_at_8_9 (z : Nat) (h : z < 3) : parseDeepRun 8 9 z = true := by
  by_cases h0 : 0 ≤ z ∧ z < 3
  · have := List.all_eq_true.1 parseDeep_run_8_9_0 _ (List.mem_map.2 ⟨z - 0, List.mem_range.2 (by omega), rfl⟩)
    rwa [show Nat.add 0 (z - 0) = z from by show 0 + (z - 0) = z; omega] at this
  exfalso; omega
theorem parseDeep_at_8_10 (z : Nat) (h : z < 3) : parseDeepRun 8 10 z = true := by
  by_cases h0 : 0 ≤ z ∧ z < 3
  · have := List.all_eq_true.1 parseDeep_run_8_10_0 _ (List.mem_map.2 ⟨z - 0, List.mem_range.2 (by omega), rfl⟩)
    rwa [show Nat.add 0 (z - 0) = z from by show 0 + (z - 0) = z; omega] at this
  exfalso; omega
theorem parseDeep_at_8_11 (z : Nat) (h : z < 3) : parseDeepRun 8 11 z = true := by
  by_cases h0 : 0 ≤ z ∧ z < 3
  · have := List.all_eq_true.1 parseDeep_run_8_11_0 _ (List.mem_map.2 ⟨z - 0, List.mem_range.2 (by omega), rfl⟩)
    rwa [show Nat.add 0 (z - 0) = z from by show 0 + (z - 0) = z; omega] at this
  exfalso; omega
theorem parseDeep_at_9_0 (z : Nat) (h : z < 3) : parseDeepRun 9 0 z = true := by
  by_cases h0 : 0 ≤ z ∧ z < 3
  · have := List.all_eq_true.1 parseDeep_run_9_0_0 _ (List.mem_map.2 ⟨z - 0, List.mem_range.2 (by omega), rfl⟩)
    rwa [show Nat.add 0 (z - 0) = z from by show 0 + (z - 0) = z; omega] at this
  exfalso; omega
theorem parseDeep_at_9_1 (z : Nat) (h : z < 3) : parseDeepRun 9 1 z = true := by
  by_cases h0 : 0 ≤ z ∧ z < 3
  · have := List.all_eq_true.1 parseDeep_run_9_1_0 _ (List.mem_map.2 ⟨z - 0, List.mem_range.2 (by omega), rfl⟩)
    rwa [show Nat.add 0 (z - 0) = z from by show 0 + (z - 0) = z; omega] at this
  exfalso; omega
theorem parseDeep_at_9_2 (z : Nat) (h : z < 3) : parseDeepRun 9 2 z = true := by
  by_cases h0 : 0 ≤ z ∧ z < 3
  · have := List.all_eq_true.1 parseDeep_run_9_2_0 _ (List.mem_map.2 ⟨z - 0, List.mem_range.2 (by omega), rfl⟩)
    rwa [show Nat.add 0 (z - 0) = z from by show 0 + (z - 0) = z; omega] at this
  exfalso; omega
theorem parseDeep_at_9_3 (z : Nat) (h : z < 3) : parseDeepRun 9 3 z = true := by
  by_cases h0 : 0 ≤ z ∧ z < 3
  · have := List.all_eq_true.1 parseDeep_run_9_3_0 _ (List.mem_map.2 ⟨z - 0, List.mem_range.2 (by omega), rfl⟩)
    rwa [show Nat.add 0 (z - 0) = z from by show 0 + (z - 0) = z; omega] at this
  exfalso; omega
theorem parseDeep_at_9_4 (z : Nat) (h : z < 3) : parseDeepRun 9 4 z = true := by
  by_cases h0 : 0 ≤ z ∧ z < 3
  · have := List.all_eq_true.1 parseDeep_run_9_4_0 _ (List.mem_map.2 ⟨z - 0, List.mem_range.2 (by omega), rfl⟩)
    rwa [show Nat.add 0 (z - 0) = z from by show 0 + (z - 0) = z; omega] at this
  exfalso; omega
theorem parseDeep_at_9_5 (z : Nat) (h : z < 3) : parseDeepRun 9 5 z = true := by
  by_cases h0 : 0 ≤ z ∧ z < 3
  · have := List.all_eq_true.1 parseDeep_run_9_5_0 _ (List.mem_map.2 ⟨z - 0, List.mem_range.2 (by omega), rfl⟩)
    rwa [show Nat.add 0 (z - 0) = z from by show 0 + (z - 0) = z; omega] at this
  exfalso; omega
theorem parseDeep_at_9_6 (z : Nat) (h : z < 3) : parseDeepRun 9 6 z = true := by
  by_cases h0 : 0 ≤ z ∧ z < 3
  · have := List.all_eq_true.1 parseDeep_run_9_6_0 _ (List.mem_map.2 ⟨z - 0, List.mem_range.2 (by omega), rfl⟩)
    rwa [show Nat.add 0 (z - 0) = z from by show 0 + (z - 0) = z; omega] at this
  exfalso; omega
theorem parseDeep_at_9_7 (z : Nat) (h : z < 3) : parseDeepRun 9 7 z = true := by
  by_cases h0 : 0 ≤ z ∧ z < 3
  · have := List.all_eq_true.1 parseDeep_run_9_7_0 _ (List.mem_map.2 ⟨z - 0, List.mem_range.2 (by omega), rfl⟩)
    rwa [show Nat.add 0 (z - 0) = z from by show 0 + (z - 0) = z; omega] at this
  exfalso; omega
theorem parseDeep_at_9_8 (z : Nat) (h : z < 3) : parseDeepRun 9 8 z = true := by
  by_cases h0 : 0 ≤ z ∧ z < 3
  · have := List.all_eq_true.1 parseDeep_run_9_8_0 _ (List.mem_map.2 ⟨z - 0, List.mem_range.2 (by omega), rfl⟩)
    rwa [show Nat.add 0 (z - 0) = z from by show 0 + (z - 0) = z; omega] at this
  exfalso; omega
theorem parseDeep_at_9_9 (z : Nat) (h : z < 3) : parseDeepRun 9 9 z = true := by
  by_cases h0 : 0 ≤ z ∧ z < 3
  · have := List.all_eq_true.1 parseDeep_run_9_9_0 _ (List.mem_map.2 ⟨z - 0, List.mem_range.2 (by omega), rfl⟩)
    rwa [show Nat.add 0 (z - 0) = z from by show 0 + (z - 0) = z; omega] at this
  exfalso; omega
theorem parseDeep_at_9_10 (z : Nat) (h : z < 3) : parseDeepRun 9 10 z = true := by
  by_cases h0 : 0 ≤ z ∧ z < 3
  · have := List.all_eq_true.1 parseDeep_run_9_10_0 _ (List.mem_map.2 ⟨z - 0, List.mem_range.2 (by omega), rfl⟩)
    rwa [show Nat.add 0 (z - 0) = z from by show 0 + (z - 0) = z; omega] at this
  exfalso; omega
theorem parseDeep_at_9_11 (z : Nat) (h : z < 3) : parseDeepRun 9 11 z = true := by
  by_cases h0 : 0 ≤ z ∧ z < 3
  · have := List.all_eq_true.1 parseDeep_run_9_11_0 _ (List.mem_map.2 ⟨z - 0, List.mem_range.2 (by omega), rfl⟩)
    rwa [show Nat.add 0 (z - 0) = z from by show 0 + (z - 0) = z; omega] at this
  exfalso; omega
theorem parseDeep_at_10_0 (z : Nat) (h : z < 3) : parseDeepRun 10 0 z = true := by
  by_cases h0 : 0 ≤ z ∧ z < 3
  · have := List.all_eq_true.1 parseDeep_run_10_0_0 _ (List.mem_map.2 ⟨z - 0, List.mem_range.2 (by omega), rfl⟩)
    rwa [show Nat.add 0 (z - 0) = z from by show 0 + (z - 0) = z; omega] at this
  exfalso; omega
theorem parseDeep_at_10_1 (z : Nat) (h : z < 3) : parseDeepRun 10 1 z = true := by
  by_cases h0 : 0 ≤ z ∧ z < 3
  · have := List.all_eq_true.1 parseDeep_run_10_1_0 _ (List.mem_map.2 ⟨z - 0, List.mem_range.2 (by omega), rfl⟩)
    rwa [show Nat.add 0 (z - 0) = z from by show 0 + (z - 0) = z; omega] at this
  exfalso; omega
theorem parseDeep_at_10_2 (z : Nat) (h : z < 3) : parseDeepRun 10 2 z = true := by
  by_cases h0 : 0 ≤ z ∧ z < 3
  · have := List.all_eq_true.1 parseDeep_run_10_2_0 _ (List.mem_map.2 ⟨z - 0, List.mem_range.2 (by omega), rfl⟩)
    rwa [show Nat.add 0 (z - 0) = z from by show 0 + (z - 0) = z; omega] at this
  exfalso; omega
theorem parseDeep_at_10_3 (z : Nat) (h : z < 3) : parseDeepRun 10 3 z = true := by
  by_cases h0 : 0 ≤ z ∧ z < 3
  · have := List.all_eq_true.1 parseDeep_run_10_3_0 _ (List.mem_map.2 ⟨z - 0, List.mem_range.2 (by omega), rfl⟩)
    rwa [show Nat.add 0 (z - 0) = z from by show 0 + (z - 0) = z; omega] at this
  exfalso; omega
theorem parseDeep_at_10_4 (z : Nat) (h : z < 3) : parseDeepRun 10 4 z = true := by
  by_cases h0 : 0 ≤ z ∧ z < 3
  · have := List.all_eq_true.1 parseDeep_run_10_4_0 _ (List.mem_map.2 ⟨z - 0, List.mem_range.2 (by omega), rfl⟩)
    rwa [show Nat.add 0 (z - 0) = z from by show 0 + (z - 0) = z; omega] at this
  exfalso; omega
theorem parseDeep_at_10_5 (z : Nat) (h : z < 3) : parseDeepRun 10 5 z = true := by
  by_cases h0 : 0 ≤ z ∧ z < 3
  · have := List.all_eq_true.1 parseDeep_run_10_5_0 _ (List.mem_map.2 ⟨z - 0, List.mem_range.2 (by omega), rfl⟩)
    rwa [show Nat.add 0 (z - 0) = z from by show 0 + (z - 0) = z; omega] at this
  exfalso; omega
theorem parseDeep_at_10_6 (z : Nat) (h : z < 3) : parseDeepRun 10 6 z = true := by
  by_cases h0 : 0 ≤ z ∧ z < 3
  · have := List.all_eq_true.1 parseDeep_run_10_6_0 _ (List.mem_map.2 ⟨z - 0, List.mem_range.2 (by omega), rfl⟩)
    rwa [show Nat.add 0 (z - 0) = z from by show 0 + (z - 0) = z; omega] at this
  exfalso; omega
theorem parseDeep_at_10_7 (z : Nat) (h : z < 3) : parseDeepRun 10 7 z = true := by
  by_cases h0 : 0 ≤ z ∧ z < 3
  · have := List.all_eq_true.1 parseDeep_run_10_7_0 _ (List.mem_map.2 ⟨z - 0, List.mem_range.2 (by omega), rfl⟩)
    rwa [show Nat.add 0 (z - 0) = z from by show 0 + (z - 0) = z; omega] at this
  exfalso; omega
theorem parseDeep_at_10_8 (z : Nat) (h : z < 3) : parseDeepRun 10 8 z = true := by
  by_cases h0 : 0 ≤ z ∧ z < 3
  · have := List.all_eq_true.1 parseDeep_run_10_8_0 _ (List.mem_map.2 ⟨z - 0, List.mem_range.2 (by omega), rfl⟩)
    rwa [show Nat.add 0 (z - 0) = z from by show 0 + (z - 0) = z; omega] at this
  exfalso; omega
theorem parseDeep_at_10_9 (z : Nat) (h : z < 3) : parseDeepRun 10 9 z = true := by
  by_cases h0 : 0 ≤ z ∧ z < 3
  · have := List.all_eq_true.1 parseDeep_run_10_9_0 _ (List.mem_map.2 ⟨z - 0, List.mem_range.2 (by omega), rfl⟩)
    rwa [show Nat.add 0 (z - 0) = z from by show 0 + (z - 0) = z; omega] at this
  exfalso; omega
theorem parseDeep_at_10_10 (z : Nat) (h : z < 3) : parseDeepRun 10 10 z = true := by
  by_cases h0 : 0 ≤ z ∧ z < 3
  · have := List.all_eq_true.1 parseDeep_run_10_10_0 _ (List.mem_map.2 ⟨z - 0, List.mem_range.2 (by omega), rfl⟩)
    rwa [show Nat.add 0 (z - 0) = z from by show 0 + (z - 0) = z; omega] at this
  exfalso; omega
theorem parseDeep_at_10_11 (z : Nat) (h : z < 3) : parseDeepRun 10 11 z = true := by
  by_cases h0 : 0 ≤ z ∧ z < 3
  · have := List.all_eq_true.1 parseDeep_run_10_11_0 _ (List.mem_map.2 ⟨z - 0, List.mem_range.2 (by omega), rfl⟩)
    rwa [show Nat.add 0 (z - 0) = z from by show 0 + (z - 0) = z; omega] at this
  exfalso; omega
theorem parseDeep_at_11_0 (z : Nat) (h : z < 3) : parseDeepRun 11 0 z = true := by
  by_cases h0 : 0 ≤ z ∧ z < 3
  · have := List.all_eq_true.1 parseDeep_run_11_0_0 _ (List.mem_map.2 ⟨z - 0, List.mem_range.2 (by omega), rfl⟩)
    rwa [show Nat.add 0 (z - 0) = z from by show 0 + (z - 0) = z; omega] at this
  exfalso; omega
theorem parseDeep_at_11_1 (z : Nat) (h : z < 3) : parseDeepRun 11 1 z = true := by
  by_cases h0 : 0 ≤ z ∧ z < 3
  · have := List.all_eq_true.1 parseDeep_run_11_1_0 _ (List.mem_map.2 ⟨z - 0, List.mem_range.2 (by omega), rfl⟩)
    rwa [show Nat.add 0 (z - 0) = z from by show 0 + (z - 0) = z; omega] at this
  exfalso; omega
theorem parseDeep_at_11_2 (z : Nat) (h : z < 3) : parseDeepRun 11 2 z = true := by
  by_cases h0 : 0 ≤ z ∧ z < 3
  · have := List.all_eq_true.1 parseDeep_run_11_2_0 _ (List.mem_map.2 ⟨z - 0, List.mem_range.2 (by omega), rfl⟩)
    rwa [show Nat.add 0 (z - 0) = z from by show 0 + (z - 0) = z; omega] at this
  exfalso; omega
theorem parseDeep_at_11_3 (z : Nat) (h : z < 3) : parseDeepRun 11 3 z = true := by
  by_cases h0 : 0 ≤ z ∧ z < 3
  · have := List.all_eq_true.1 parseDeep_run_11_3_0 _ (List.mem_map.2 ⟨z - 0, List.mem_range.2 (by omega), rfl⟩)
    rwa [show Nat.add 0 (z - 0) = z from by show 0 + (z - 0) = z; omega] at this
  exfalso; omega
theorem parseDeep_at_11_4 (z : Nat) (h : z < 3) : parseDeepRun 11 4 z = true := by
  by_cases h0 : 0 ≤ z ∧ z < 3
  · have := List.all_eq_true.1 parseDeep_run_11_4_0 _ (List.mem_map.2 ⟨z - 0, List.mem_range.2 (by omega), rfl⟩)
    rwa [show Nat.add 0 (z - 0) = z from by show 0 + (z - 0) = z; omega] at this
  exfalso; omega
theorem parseDeep_at_11_5 (z : Nat) (h : z < 3) : parseDeepRun 11 5 z = true := by
  by_cases h0 : 0 ≤ z ∧ z < 3
  · have := List.all_eq_true.1 parseDeep_run_11_5_0 _ (List.mem_map.2 ⟨z - 0, List.mem_range.2 (by omega), rfl⟩)
    rwa [show Nat.add 0 (z - 0) = z from by show 0 + (z - 0) = z; omega] at this
  exfalso; omega
theorem parseDeep_at_11_6 (z : Nat) (h : z < 3) : parseDeepRun 11 6 z = true := by
  by_cases h0 : 0 ≤ z ∧ z < 3
  · have := List.all_eq_true.1 parseDeep_run_11_6_0 _ (List.mem_map.2 ⟨z - 0, List.mem_range.2 (by omega), rfl⟩)
    rwa [show Nat.add 0 (z - 0) = z from by show 0 + (z - 0) = z; omega] at this
  exfalso; omega
theorem parseDeep_at_11_7 (z : Nat) (h : z < 3) : parseDeepRun 11 7 z = true := by
  by_cases h0 : 0 ≤ z ∧ z < 3
  · have := List.all_eq_true.1 parseDeep_run_11_7_0 _ (List.mem_map.2 ⟨z - 0, List.mem_range.2 (by omega), rfl⟩)
    rwa [show Nat.add 0 (z - 0) = z from by show 0 + (z - 0) = z; omega] at this
  exfalso; omega
theorem parseDeep_at_11_8 (z : Nat) (h : z < 3) : parseDeepRun 11 8 z = true := by
  by_cases h0 : 0 ≤ z ∧ z < 3
  · have := List.all_eq_true.1 parseDeep_run_11_8_0 _ (List.mem_map.2 ⟨z - 0, List.mem_range.2 (by omega), rfl⟩)
    rwa [show Nat.add 0 (z - 0) = z from by show 0 + (z - 0) = z; omega] at this
  exfalso; omega
theorem parseDeep_at_11_9 (z : Nat) (h : z < 3) : parseDeepRun 11 9 z = true := by
  by_cases h0 : 0 ≤ z ∧ z < 3
  · have := List.all_eq_true.1 parseDeep_run_11_9_0 _ (List.mem_map.2 ⟨z - 0, List.mem_range.2 (by omega), rfl⟩)
    rwa [show Nat.add 0 (z - 0) = z from by show 0 + (z - 0) = z; omega] at this
  exfalso; omega
theorem parseDeep_at_11_10 (z : Nat) (h : z < 3) : parseDeepRun 11 10 z = true := by
  by_cases h0 : 0 ≤ z ∧ z < 3
  · have := List.all_eq_true.1 parseDeep_run_11_10_0 _ (List.mem_map.2 ⟨z - 0, List.mem_range.2 (by omega), rfl⟩)
    rwa [show Nat.add 0 (z - 0) = z from by show 0 + (z - 0) = z; omega] at this
  exfalso; omega
theorem parseDeep_at_11_11 (z : Nat) (h : z < 3) : parseDeepRun 11 11 z = true := by
  by_cases h0 : 0 ≤ z ∧ z < 3
  · have := List.all_eq_true.1 parseDeep_run_11_11_0 _ (List.mem_map.2 ⟨z - 0, List.mem_range.2 (by omega), rfl⟩)
    rwa [show Nat.add 0 (z - 0) = z from by show 0 + (z - 0) = z; omega] at this
  exfalso; omega
theorem parseDeep_u1_0 : ∀ y : Nat, y < 12 → ∀ z : Nat, z < 3 → parseDeepRun 0 y z = true
  | 0, _ => parseDeep_at_0_0
  | 1, _ => parseDeep_at_0_1
  | 2, _ => parseDeep_at_0_2
  | 3, _ => parseDeep_at_0_3
  | 4, _ => parseDeep_at_0_4
  | 5, _ => parseDeep_at_0_5
  | 6, _ => parseDeep_at_0_6
  | 7, _ => parseDeep_at_0_7
  | 8, _ => parseDeep_at_0_8
  | 9, _ => parseDeep_at_0_9
  | 10, _ => parseDeep_at_0_10
  | 11, _ => parseDeep_at_0_11
  | n + 12, h => absurd h (by omega)
theorem parseDeep_u1_1 : ∀ y : Nat, y < 12 → ∀ z : Nat, z < 3 → parseDeepRun 1 y z = true
  | 0, _ => parseDeep_at_1_0
  | 1, _ => parseDeep_at_1_1
  | 2, _ => parseDeep_at_1_2
  | 3, _ => parseDeep_at_1_3
  | 4, _ => parseDeep_at_1_4
  | 5, _ => parseDeep_at_1_5
  | 6, _ => parseDeep_at_1_6
  | 7, _ => parseDeep_at_1_7
  | 8, _ => parseDeep_at_1_8
  | 9, _ => parseDeep_at_1_9
  | 10, _ => parseDeep_at_1_10
  | 11, _ => parseDeep_at_1_11
  | n + 12, h => absurd h (by omega)
theorem parseDeep_u1_2 : ∀ y : Nat, y < 12 → ∀ z : Nat, z < 3 → parseDeepRun 2 y z = true
  | 0, _ => parseDeep_at_2_0
  | 1, _ => parseDeep_at_2_1
  | 2, _ => parseDeep_at_2_2
  | 3, _ => parseDeep_at_2_3
  | 4, _ => parseDeep_at_2_4
  | 5, _ => parseDeep_at_2_5
  | 6, _ => parseDeep_at_2_6
  | 7, _ => parseDeep_at_2_7
  | 8, _ => parseDeep_at_2_8
  | 9, _ => parseDeep_at_2_9
  | 10, _ => parseDeep_at_2_10
  | 11, _ => parseDeep_at_2_11
  | n + 12, h => absurd h (by omega)
theorem parseDeep_u1_3 : ∀ y : Nat, y < 12 → ∀ z : Nat, z < 3 → parseDeepRun 3 y z = true
  | 0, _ => parseDeep_at_3_0
  | 1, _ => parseDeep_at_3_1
  | 2, _ => parseDeep_at_3_2
  | 3, _ => parseDeep_at_3_3
  | 4, _ => parseDeep_at_3_4
  | 5, _ => parseDeep_at_3_5
  | 6, _ => parseDeep_at_3_6
  | 7, _ => parseDeep_at_3_7
  | 8, _ => parseDeep_at_3_8
  | 9, _ => parseDeep_at_3_9
  | 10, _ => parseDeep_at_3_10
  | 11, _ => parseDeep_at_3_11
  | n + 12, h => absurd h (by omega)
theorem parseDeep_u1_4 : ∀ y : Nat, y < 12 → ∀ z : Nat, z < 3 → parseDeepRun 4 y z = true
  | 0, _ => parseDeep_at_4_0
  | 1, _ => parseDeep_at_4_1
  | 2, _ => parseDeep_at_4_2
  | 3, _ => parseDeep_at_4_3
  | 4, _ => parseDeep_at_4_4
  | 5, _ => parseDeep_at_4_5
  | 6, _ => parseDeep_at_4_6
  | 7, _ => parseDeep_at_4_7
  | 8, _ => parseDeep_at_4_8
  | 9, _ => parseDeep_at_4_9
  | 10, _ => parseDeep_at_4_10
  | 11, _ => parseDeep_at_4_11
  | n + 12, h => absurd h (by omega)
theorem parseDeep_u1_5 : ∀ y : Nat, y < 12 → ∀ z : Nat, z < 3 → parseDeepRun 5 y z = true
  | 0, _ => parseDeep_at_5_0
  | 1, _ => parseDeep_at_5_1
  | 2, _ => parseDeep_at_5_2
  | 3, _ => parseDeep_at_5_3
  | 4, _ => parseDeep_at_5_4
  | 5, _ => parseDeep_at_5_5
  | 6, _ => parseDeep_at_5_6
  | 7, _ => parseDeep_at_5_7
  | 8, _ => parseDeep_at_5_8
  | 9, _ => parseDeep_at_5_9
  | 10, _ => parseDeep_at_5_10
  | 11, _ => parseDeep_at_5_11
  | n + 12, h => absurd h (by omega)
theorem parseDeep_u1_6 : ∀ y : Nat, y < 12 → ∀ z : Nat, z < 3 → parseDeepRun 6 y z = true
  | 0, _ => parseDeep_at_6_0
  | 1, _ => parseDeep_at_6_1
  | 2, _ => parseDeep_at_6_2
  | 3, _ => parseDeep_at_6_3
  | 4, _ => parseDeep_at_6_4
  | 5, _ => parseDeep_at_6_5
  | 6, _ => parseDeep_at_6_6
  | 7, _ => parseDeep_at_6_7
  | 8, _ => parseDeep_at_6_8
  | 9, _ => parseDeep_at_6_9
  | 10, _ => parseDeep_at_6_10
  | 11, _ => parseDeep_at_6_11
  | n + 12, h => absurd h (by omega)
theorem parseDeep_u1_7 : ∀ y : Nat, y < 12 → ∀ z : Nat, z < 3 → parseDeepRun 7 y z = true
  | 0, _ => parseDeep_at_7_0
  | 1, _ => parseDeep_at_7_1
  | 2, _ => parseDeep_at_7_2
  | 3, _ => parseDeep_at_7_3
  | 4, _ => parseDeep_at_7_4
  | 5, _ => parseDeep_at_7_5
  | 6, _ => parseDeep_at_7_6
  | 7, _ => parseDeep_at_7_7
  | 8, _ => parseDeep_at_7_8
  | 9, _ => parseDeep_at_7_9
  | 10, _ => parseDeep_at_7_10
  | 11, _ => parseDeep_at_7_11
  | n + 12, h => absurd h (by omega)
theorem parseDeep_u1_8 : ∀ y : Nat, y < 12 → ∀ z : Nat, z < 3 → parseDeepRun 8 y z = true
  | 0, _ => parseDeep_at_8_0
  | 1, _ => parseDeep_at_8_1
  | 2, _ => parseDeep_at_8_2
  | 3, _ => parseDeep_at_8_3
  | 4, _ => parseDeep_at_8_4
  | 5, _ => parseDeep_at_8_5
  | 6, _ => parseDeep_at_8_6
  | 7, _ => parseDeep_at_8_7
  | 8, _ => parseDeep_at_8_8
  | 9, _ => parseDeep_at_8_9
  | 10, _ => parseDeep_at_8_10
  | 11, _ => parseDeep_at_8_11
  | n + 12, h => absurd h (by omega)
theorem parseDeep_u1_9 : ∀ y : Nat, y < 12 → ∀ z : Nat, z < 3 → parseDeepRun 9 y z = true
  | 0, _ => parseDeep_at_9_0
  | 1, _ => parseDeep_at_9_1
  | 2, _ => parseDeep_at_9_2
  | 3, _ => parseDeep_at_9_3
  | 4, _ => parseDeep_at_9_4
  | 5, _ => parseDeep_at_9_5
  | 6, _ => parseDeep_at_9_6
  | 7, _ => parseDeep_at_9_7
  | 8, _ => parseDeep_at_9_8
  | 9, _ => parseDeep_at_9_9
  | 10, _ => parseDeep_at_9_10
  | 11, _ => parseDeep_at_9_11
  | n + 12, h => absurd h (by omega)
theorem parseDeep_u1_10 : ∀ y : Nat, y < 12 → ∀ z : Nat, z < 3 → parseDeepRun 10 y z = true
  | 0, _ => parseDeep_at_10_0
  | 1, _ => parseDeep_at_10_1
  | 2, _ => parseDeep_at_10_2
  | 3, _ => parseDeep_at_10_3
  | 4, _ => parseDeep_at_10_4
  | 5, _ => parseDeep_at_10_5
  | 6, _ => parseDeep_at_10_6
  | 7, _ => parseDeep_at_10_7
  | 8, _ => parseDeep_at_10_8
  | 9, _ => parseDeep_at_10_9
  | 10, _ => parseDeep_at_10_10
  | 11, _ => parseDeep_at_10_11
  | n + 12, h => absurd h (by omega)
theorem parseDeep_u1_11 : ∀ y : Nat, y < 12 → ∀ z : Nat, z < 3 → parseDeepRun 11 y z = true
  | 0, _ => parseDeep_at_11_0
  | 1, _ => parseDeep_at_11_1
  | 2, _ => parseDeep_at_11_2
  | 3, _ => parseDeep_at_11_3
  | 4, _ => parseDeep_at_11_4
  | 5, _ => parseDeep_at_11_5
  | 6, _ => parseDeep_at_11_6
  | 7, _ => parseDeep_at_11_7
  | 8, _ => parseDeep_at_11_8
  | 9, _ => parseDeep_at_11_9
  | 10, _ => parseDeep_at_11_10
  | 11, _ => parseDeep_at_11_11
  | n + 12, h => absurd h (by omega)
theorem parseDeep_u0 : ∀ x : Nat, x < 12 → ∀ y : Nat, y < 12 → ∀ z : Nat, z < 3 → parseDeepRun x y z = true
  | 0, _ => parseDeep_u1_0
  | 1, _ => parseDeep_u1_1
  | 2, _ => parseDeep_u1_2
  | 3, _ => parseDeep_u1_3
  | 4, _ => parseDeep_u1_4
  | 5, _ => parseDeep_u1_5
  | 6, _ => parseDeep_u1_6
  | 7, _ => parseDeep_u1_7
  | 8, _ => parseDeep_u1_8
  | 9, _ => parseDeep_u1_9
  | 10, _ => parseDeep_u1_10
  | 11, _ => parseDeep_u1_11
  | n + 12, h => absurd h (by omega)
theorem parseDeep_says (x : Int) (y : Int) (z : Int) : Says Tryz.prog 4 #[.int .i64 x, .int .i64 y, .int .i64 z] (.bool true) := by
  obtain ⟨h0, e0⟩ := mod_ok (n := x) (k := 12) (by omega)
  obtain ⟨h1, e1⟩ := mod_ok (n := y) (k := 12) (by omega)
  obtain ⟨h2, e2⟩ := mod_ok (n := z) (k := 3) (by omega)
  intro w
  refine law_calls_args (vs := [.int .i64 x, .int .i64 y, .int .i64 z]) (args := [ghost Tryz.prog 0, ghost Tryz.prog 1, ghost Tryz.prog 2]) (fun d => mores_ok (l := [⟨0, 12, (x % 12).toNat⟩, ⟨1, 12, (y % 12).toNat⟩, ⟨2, 3, (z % 3).toNat⟩]) ?_ _ _ d) rfl rfl ?_ Tryz.func4 (by kernel_rfl) (by kernel_rfl) (parseDeep_u0 _ h0 _ h1 _ h2)
  · intro q hq
    simp only [List.mem_cons, List.not_mem_nil, or_false] at hq
    rcases hq with rfl | rfl | rfl
    · exact ⟨x, rfl, e0⟩
    · exact ⟨y, rfl, e1⟩
    · exact ⟨z, rfl, e2⟩
  · intro i v v' h1 h2
    match i with
    | 0 => exact .inl (Option.some.inj h1).symm
    | 1 => exact .inl (Option.some.inj h1).symm
    | 2 => exact .inl (Option.some.inj h1).symm
    | i + 3 => simp at h1
theorem parseDeep_lifted (os : Os) (started : os.Started) (H : Type) (enc : TypeId × Value → H) :
    ReturnsInHanded {} Tryz.checked os 4 .any (fun w args => (Rows.parseDeepSpec.pre enc Tryz.prog Tryz.f4 [] false w args ∧ laidMetH Tryz.prog Rows.parseDeepRow.laid w) ∧ sizedMet enc Tryz.prog Tryz.f4 (OpenSpec.ofChange Rows.parseDeepSpec) false w args)
      (Rows.parseDeepSpec.post enc Tryz.prog Tryz.f4 false true false false) := by
  refine returnsInHanded_of_change_and (C := Tryz.checked) (X := fun w _ => laidMetH Tryz.prog Rows.parseDeepRow.laid w) (fun _ _ _ hh h => h.of_heap hh) own started (by kernel_rfl) Tryz.func4
    (ChangeSpec.witness_shaped (enc := enc) (C := Tryz.checked) (os := os) (X := fun w _ => laidMetH Tryz.prog Rows.parseDeepRow.laid w) false (World.laidAll Tryz.prog os Rows.parseDeepRow.laid) #[.int .i64 0, .int .i64 0, .int .i64 0] 8 (World.laidAll_os _ _ _)
      (World.shaped_of_ZipB (by kernel_rfl) (by kernel_rfl)) (by kernel_rfl) (by kernel_rfl) (by kernel_rfl)
      (by rw [MakeChecks.laidMetH_plain _ _ _ (by kernel_rfl)]; exact laidMet_laidAll _ (by kernel_rfl) (by kernel_rfl))) ?_
  intro W base args ds gs before hval0 hW _ _ hL _
  have hval : ∀ (j : Nat) t v, Tryz.f4.params[j]? = some t → args[j]? = some v → Value.okWide Tryz.prog W .any base t v := hval0
  have hW' := hW
  obtain ⟨p, q, hA0, hV, rfl, _, _⟩ := hW
  have hA : DataW.TrodAll enc Tryz.prog W 0 (fun _ => true) true Tryz.f4.params.toList args.toList ds p := hA0
  rw [Tryz.params4] at hA hval
  obtain ⟨v0, v1, v2, d0, d1, d2, p0, p1, p2, rfl, rfl, rfl, h0, h1, h2⟩ := trodAll_three hA
  obtain ⟨rfl, rfl⟩ := trodVars_none hV
  obtain ⟨x0, rfl, rfl, rfl, w0⟩ := open_int Tryz.underlying3 (hval 0 3 v0 rfl rfl) h0
  obtain ⟨x1, rfl, rfl, rfl, w1⟩ := open_int Tryz.underlying3 (hval 1 3 v1 rfl rfl) h1
  obtain ⟨x2, rfl, rfl, rfl, w2⟩ := open_int Tryz.underlying3 (hval 2 3 v2 rfl rfl) h2
  simp only [List.append_nil] at hW'
  refine (parseDeep_says x0 x1 x2 W).mono fun e W' ⟨he, hb⟩ => ?_
  subst he
  exact ⟨_, rfl, _, _, _, [], [], [], hW', trodAll_mk1 (shut_bool Tryz.underlying4 _), trodAll_mk3 (shut_int Tryz.underlying3 w0) (shut_int Tryz.underlying3 w1) (shut_int Tryz.underlying3 w2), rfl, hb.frame _, fun h => by cases h⟩
theorem parseDeep_holds : Rows.ParseDeepSaid :=
  OpenClaim.holds_of_wide 4 Tryz.f4 rfl rfl rfl rfl rfl rfl rfl ⟨rfl, rfl, rfl, rfl, rfl⟩ rfl rfl rfl rfl rfl (by kernel_rfl) Tryz.func4 (by kernel_rfl)
    (of_decide_eq_true (by kernel_rfl)) (by unfold Func.isWrapper; first | (rw [if_pos (by decide +kernel)]; kernel_rfl) | (rw [if_neg (by decide +kernel)]; exact ⟨rfl, rfl⟩))
    (fun os started H enc _ => parseDeep_lifted os started H enc)
theorem parseDeep_card_holds : Rows.ParseDeepCardSaid :=
  Claim7.holds_tied_plain_at .later [] [.data, .data, .data, .data, .sentinel, .sentinel, .data, .data, .pinned, .pinned] true (true, "b579cfe58eb3148e8f4116c15536690b8739eda915b1307d80c64b55de1768b0") true parseDeep_holds (fun _ h => by cases h) (by kernel_rfl) (fun _ h => by cases h) parseDeep_row_tie rfl ⟨rfl, rfl⟩ (by kernel_rfl) rfl
    (fun f fn hf hfn => by
      obtain rfl : f = 4 := Option.some.inj ((show Tryz.prog.funcNamed "triad/triadlaw14.ParseDeep" = some 4 by kernel_rfl).symm.trans hf) |>.symm
      obtain rfl : fn = Tryz.f4 := (Option.some.inj (Tryz.func4.symm.trans hfn)).symm
      exact ⟨by kernel_rfl, fun j t ht => by
        rw [Tryz.params4] at ht
        have hm : t ∈ [3, 3, 3] := by simpa using Array.mem_of_getElem? ht
        have hall : ([3, 3, 3].all fun u => !Tryz.prog.wantsStandIn u) = true := by kernel_rfl
        exact (show Tryz.prog.wantsStandIn t = false by simpa using List.all_eq_true.1 hall t hm)⟩)
    (by kernel_rfl)
#print axioms parseDeep_card_holds
