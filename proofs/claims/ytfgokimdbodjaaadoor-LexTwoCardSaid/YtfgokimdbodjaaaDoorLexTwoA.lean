/- Pairs of pieces, part 1. -/
import Derived.Test.YtfgokimdbodjaaaDoorLexTabs
namespace Go.Proofs.YtfgokimdbodjaaaDoor
open Go.RowKit Go.Am
set_option maxRecDepth 100000
theorem two_run0_0 : (((List.range 54).drop 0).take 18).all (twoRun 0) = true := by kernel_rfl
theorem two_run0_18 : (((List.range 54).drop 18).take 18).all (twoRun 0) = true := by kernel_rfl
theorem two_run0_36 : (((List.range 54).drop 36).take 18).all (twoRun 0) = true := by kernel_rfl
theorem two_run0 : (List.range 54).all (twoRun 0) = true := by
  refine all_cut 18 _ two_run0_0 ?_
  refine all_cut 18 _ two_run0_18 ?_
  rw [List.drop_drop]
  refine all_cut 18 _ two_run0_36 ?_
  kernel_rfl
theorem two_run1_0 : (((List.range 54).drop 0).take 18).all (twoRun 1) = true := by kernel_rfl
theorem two_run1_18 : (((List.range 54).drop 18).take 18).all (twoRun 1) = true := by kernel_rfl
theorem two_run1_36 : (((List.range 54).drop 36).take 18).all (twoRun 1) = true := by kernel_rfl
theorem two_run1 : (List.range 54).all (twoRun 1) = true := by
  refine all_cut 18 _ two_run1_0 ?_
  refine all_cut 18 _ two_run1_18 ?_
  rw [List.drop_drop]
  refine all_cut 18 _ two_run1_36 ?_
  kernel_rfl
theorem two_run2_0 : (((List.range 54).drop 0).take 18).all (twoRun 2) = true := by kernel_rfl
theorem two_run2_18 : (((List.range 54).drop 18).take 18).all (twoRun 2) = true := by kernel_rfl
theorem two_run2_36 : (((List.range 54).drop 36).take 18).all (twoRun 2) = true := by kernel_rfl
theorem two_run2 : (List.range 54).all (twoRun 2) = true := by
  refine all_cut 18 _ two_run2_0 ?_
  refine all_cut 18 _ two_run2_18 ?_
  rw [List.drop_drop]
  refine all_cut 18 _ two_run2_36 ?_
  kernel_rfl
theorem two_run3_0 : (((List.range 54).drop 0).take 18).all (twoRun 3) = true := by kernel_rfl
theorem two_run3_18 : (((List.range 54).drop 18).take 18).all (twoRun 3) = true := by kernel_rfl
theorem two_run3_36 : (((List.range 54).drop 36).take 18).all (twoRun 3) = true := by kernel_rfl
theorem two_run3 : (List.range 54).all (twoRun 3) = true := by
  refine all_cut 18 _ two_run3_0 ?_
  refine all_cut 18 _ two_run3_18 ?_
  rw [List.drop_drop]
  refine all_cut 18 _ two_run3_36 ?_
  kernel_rfl
theorem two_run4_0 : (((List.range 54).drop 0).take 18).all (twoRun 4) = true := by kernel_rfl
theorem two_run4_18 : (((List.range 54).drop 18).take 18).all (twoRun 4) = true := by kernel_rfl
theorem two_run4_36 : (((List.range 54).drop 36).take 18).all (twoRun 4) = true := by kernel_rfl
theorem two_run4 : (List.range 54).all (twoRun 4) = true := by
  refine all_cut 18 _ two_run4_0 ?_
  refine all_cut 18 _ two_run4_18 ?_
  rw [List.drop_drop]
  refine all_cut 18 _ two_run4_36 ?_
  kernel_rfl
theorem two_run5_0 : (((List.range 54).drop 0).take 18).all (twoRun 5) = true := by kernel_rfl
theorem two_run5_18 : (((List.range 54).drop 18).take 18).all (twoRun 5) = true := by kernel_rfl
theorem two_run5_36 : (((List.range 54).drop 36).take 18).all (twoRun 5) = true := by kernel_rfl
theorem two_run5 : (List.range 54).all (twoRun 5) = true := by
  refine all_cut 18 _ two_run5_0 ?_
  refine all_cut 18 _ two_run5_18 ?_
  rw [List.drop_drop]
  refine all_cut 18 _ two_run5_36 ?_
  kernel_rfl
theorem two_run6_0 : (((List.range 54).drop 0).take 18).all (twoRun 6) = true := by kernel_rfl
theorem two_run6_18 : (((List.range 54).drop 18).take 18).all (twoRun 6) = true := by kernel_rfl
theorem two_run6_36 : (((List.range 54).drop 36).take 18).all (twoRun 6) = true := by kernel_rfl
theorem two_run6 : (List.range 54).all (twoRun 6) = true := by
  refine all_cut 18 _ two_run6_0 ?_
  refine all_cut 18 _ two_run6_18 ?_
  rw [List.drop_drop]
  refine all_cut 18 _ two_run6_36 ?_
  kernel_rfl
theorem two_run7_0 : (((List.range 54).drop 0).take 18).all (twoRun 7) = true := by kernel_rfl
theorem two_run7_18 : (((List.range 54).drop 18).take 18).all (twoRun 7) = true := by kernel_rfl
theorem two_run7_36 : (((List.range 54).drop 36).take 18).all (twoRun 7) = true := by kernel_rfl
theorem two_run7 : (List.range 54).all (twoRun 7) = true := by
  refine all_cut 18 _ two_run7_0 ?_
  refine all_cut 18 _ two_run7_18 ?_
  rw [List.drop_drop]
  refine all_cut 18 _ two_run7_36 ?_
  kernel_rfl
theorem two_run8_0 : (((List.range 54).drop 0).take 18).all (twoRun 8) = true := by kernel_rfl
theorem two_run8_18 : (((List.range 54).drop 18).take 18).all (twoRun 8) = true := by kernel_rfl
theorem two_run8_36 : (((List.range 54).drop 36).take 18).all (twoRun 8) = true := by kernel_rfl
theorem two_run8 : (List.range 54).all (twoRun 8) = true := by
  refine all_cut 18 _ two_run8_0 ?_
  refine all_cut 18 _ two_run8_18 ?_
  rw [List.drop_drop]
  refine all_cut 18 _ two_run8_36 ?_
  kernel_rfl
theorem two_run9_0 : (((List.range 54).drop 0).take 18).all (twoRun 9) = true := by kernel_rfl
theorem two_run9_18 : (((List.range 54).drop 18).take 18).all (twoRun 9) = true := by kernel_rfl
theorem two_run9_36 : (((List.range 54).drop 36).take 18).all (twoRun 9) = true := by kernel_rfl
theorem two_run9 : (List.range 54).all (twoRun 9) = true := by
  refine all_cut 18 _ two_run9_0 ?_
  refine all_cut 18 _ two_run9_18 ?_
  rw [List.drop_drop]
  refine all_cut 18 _ two_run9_36 ?_
  kernel_rfl
theorem two_run10_0 : (((List.range 54).drop 0).take 18).all (twoRun 10) = true := by kernel_rfl
theorem two_run10_18 : (((List.range 54).drop 18).take 18).all (twoRun 10) = true := by kernel_rfl
theorem two_run10_36 : (((List.range 54).drop 36).take 18).all (twoRun 10) = true := by kernel_rfl
theorem two_run10 : (List.range 54).all (twoRun 10) = true := by
  refine all_cut 18 _ two_run10_0 ?_
  refine all_cut 18 _ two_run10_18 ?_
  rw [List.drop_drop]
  refine all_cut 18 _ two_run10_36 ?_
  kernel_rfl
theorem two_run11_0 : (((List.range 54).drop 0).take 18).all (twoRun 11) = true := by kernel_rfl
theorem two_run11_18 : (((List.range 54).drop 18).take 18).all (twoRun 11) = true := by kernel_rfl
theorem two_run11_36 : (((List.range 54).drop 36).take 18).all (twoRun 11) = true := by kernel_rfl
theorem two_run11 : (List.range 54).all (twoRun 11) = true := by
  refine all_cut 18 _ two_run11_0 ?_
  refine all_cut 18 _ two_run11_18 ?_
  rw [List.drop_drop]
  refine all_cut 18 _ two_run11_36 ?_
  kernel_rfl
theorem two_run12_0 : (((List.range 54).drop 0).take 18).all (twoRun 12) = true := by kernel_rfl
theorem two_run12_18 : (((List.range 54).drop 18).take 18).all (twoRun 12) = true := by kernel_rfl
theorem two_run12_36 : (((List.range 54).drop 36).take 18).all (twoRun 12) = true := by kernel_rfl
theorem two_run12 : (List.range 54).all (twoRun 12) = true := by
  refine all_cut 18 _ two_run12_0 ?_
  refine all_cut 18 _ two_run12_18 ?_
  rw [List.drop_drop]
  refine all_cut 18 _ two_run12_36 ?_
  kernel_rfl
theorem two_run13_0 : (((List.range 54).drop 0).take 18).all (twoRun 13) = true := by kernel_rfl
theorem two_run13_18 : (((List.range 54).drop 18).take 18).all (twoRun 13) = true := by kernel_rfl
theorem two_run13_36 : (((List.range 54).drop 36).take 18).all (twoRun 13) = true := by kernel_rfl
theorem two_run13 : (List.range 54).all (twoRun 13) = true := by
  refine all_cut 18 _ two_run13_0 ?_
  refine all_cut 18 _ two_run13_18 ?_
  rw [List.drop_drop]
  refine all_cut 18 _ two_run13_36 ?_
  kernel_rfl
end Go.Proofs.YtfgokimdbodjaaaDoor
