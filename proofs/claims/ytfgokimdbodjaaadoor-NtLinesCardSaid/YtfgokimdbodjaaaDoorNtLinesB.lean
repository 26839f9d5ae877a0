/- Runs of NtLines, part 2. -/
import Derived.Test.YtfgokimdbodjaaaDoorNtRuns
namespace Go.Proofs.YtfgokimdbodjaaaDoor
open Go.RowKit Go.Am
set_option maxRecDepth 100000
theorem lines_run0_2 : (List.range 5).all (linesRun 0 2) = true := by kernel_rfl
theorem lines_run1_0 : (List.range 5).all (linesRun 1 0) = true := by kernel_rfl
theorem lines_run1_2 : (List.range 5).all (linesRun 1 2) = true := by kernel_rfl
theorem lines_run2_2 : (List.range 5).all (linesRun 2 2) = true := by kernel_rfl
theorem lines_run3_3 : (List.range 5).all (linesRun 3 3) = true := by kernel_rfl
theorem lines_run4_4 : (List.range 5).all (linesRun 4 4) = true := by kernel_rfl
theorem lines_run5_4 : (List.range 5).all (linesRun 5 4) = true := by kernel_rfl
theorem lines_run6_0 : (List.range 5).all (linesRun 6 0) = true := by kernel_rfl
theorem lines_run6_3 : (List.range 5).all (linesRun 6 3) = true := by kernel_rfl
theorem lines_run7_1 : (List.range 5).all (linesRun 7 1) = true := by kernel_rfl
theorem lines_run8_2 : (List.range 5).all (linesRun 8 2) = true := by kernel_rfl
theorem lines_run9_2 : (List.range 5).all (linesRun 9 2) = true := by kernel_rfl
theorem lines_run10_0_0 : (((List.range 5).drop 0).take 3).all (linesRun 10 0) = true := by kernel_rfl
theorem lines_run10_0_3 : (((List.range 5).drop 3).take 3).all (linesRun 10 0) = true := by kernel_rfl
theorem lines_run10_0 : (List.range 5).all (linesRun 10 0) = true := by
  refine cut_all5 3 _ lines_run10_0_0 ?_
  refine cut_all5 3 _ lines_run10_0_3 ?_
  kernel_rfl
theorem lines_run10_3_0 : (((List.range 5).drop 0).take 3).all (linesRun 10 3) = true := by kernel_rfl
theorem lines_run10_3_3 : (((List.range 5).drop 3).take 3).all (linesRun 10 3) = true := by kernel_rfl
theorem lines_run10_3 : (List.range 5).all (linesRun 10 3) = true := by
  refine cut_all5 3 _ lines_run10_3_0 ?_
  refine cut_all5 3 _ lines_run10_3_3 ?_
  kernel_rfl
theorem lines_run11_1_0 : (((List.range 5).drop 0).take 3).all (linesRun 11 1) = true := by kernel_rfl
theorem lines_run11_1_3 : (((List.range 5).drop 3).take 3).all (linesRun 11 1) = true := by kernel_rfl
theorem lines_run11_1 : (List.range 5).all (linesRun 11 1) = true := by
  refine cut_all5 3 _ lines_run11_1_0 ?_
  refine cut_all5 3 _ lines_run11_1_3 ?_
  kernel_rfl
theorem lines_run12_2_0 : (((List.range 5).drop 0).take 3).all (linesRun 12 2) = true := by kernel_rfl
theorem lines_run12_2_3 : (((List.range 5).drop 3).take 3).all (linesRun 12 2) = true := by kernel_rfl
theorem lines_run12_2 : (List.range 5).all (linesRun 12 2) = true := by
  refine cut_all5 3 _ lines_run12_2_0 ?_
  refine cut_all5 3 _ lines_run12_2_3 ?_
  kernel_rfl
theorem lines_run13_1_0 : (((List.range 5).drop 0).take 3).all (linesRun 13 1) = true := by kernel_rfl
theorem lines_run13_1_3 : (((List.range 5).drop 3).take 3).all (linesRun 13 1) = true := by kernel_rfl
theorem lines_run13_1 : (List.range 5).all (linesRun 13 1) = true := by
  refine cut_all5 3 _ lines_run13_1_0 ?_
  refine cut_all5 3 _ lines_run13_1_3 ?_
  kernel_rfl
theorem lines_run13_3_0 : (((List.range 5).drop 0).take 3).all (linesRun 13 3) = true := by kernel_rfl
theorem lines_run13_3_3 : (((List.range 5).drop 3).take 3).all (linesRun 13 3) = true := by kernel_rfl
theorem lines_run13_3 : (List.range 5).all (linesRun 13 3) = true := by
  refine cut_all5 3 _ lines_run13_3_0 ?_
  refine cut_all5 3 _ lines_run13_3_3 ?_
  kernel_rfl
theorem lines_run14_2_0 : (((List.range 5).drop 0).take 2).all (linesRun 14 2) = true := by kernel_rfl
theorem lines_run14_2_2 : (((List.range 5).drop 2).take 2).all (linesRun 14 2) = true := by kernel_rfl
theorem lines_run14_2_4 : (((List.range 5).drop 4).take 2).all (linesRun 14 2) = true := by kernel_rfl
theorem lines_run14_2 : (List.range 5).all (linesRun 14 2) = true := by
  refine cut_all5 2 _ lines_run14_2_0 ?_
  refine cut_all5 2 _ lines_run14_2_2 ?_
  rw [List.drop_drop]
  refine cut_all5 2 _ lines_run14_2_4 ?_
  kernel_rfl
theorem lines_run15_3_0 : (((List.range 5).drop 0).take 2).all (linesRun 15 3) = true := by kernel_rfl
theorem lines_run15_3_2 : (((List.range 5).drop 2).take 2).all (linesRun 15 3) = true := by kernel_rfl
theorem lines_run15_3_4 : (((List.range 5).drop 4).take 2).all (linesRun 15 3) = true := by kernel_rfl
theorem lines_run15_3 : (List.range 5).all (linesRun 15 3) = true := by
  refine cut_all5 2 _ lines_run15_3_0 ?_
  refine cut_all5 2 _ lines_run15_3_2 ?_
  rw [List.drop_drop]
  refine cut_all5 2 _ lines_run15_3_4 ?_
  kernel_rfl
theorem lines_run16_4_0 : (((List.range 5).drop 0).take 2).all (linesRun 16 4) = true := by kernel_rfl
theorem lines_run16_4_2 : (((List.range 5).drop 2).take 2).all (linesRun 16 4) = true := by kernel_rfl
theorem lines_run16_4_4 : (((List.range 5).drop 4).take 2).all (linesRun 16 4) = true := by kernel_rfl
theorem lines_run16_4 : (List.range 5).all (linesRun 16 4) = true := by
  refine cut_all5 2 _ lines_run16_4_0 ?_
  refine cut_all5 2 _ lines_run16_4_2 ?_
  rw [List.drop_drop]
  refine cut_all5 2 _ lines_run16_4_4 ?_
  kernel_rfl
theorem lines_run17_4_0 : (((List.range 5).drop 0).take 2).all (linesRun 17 4) = true := by kernel_rfl
theorem lines_run17_4_2 : (((List.range 5).drop 2).take 2).all (linesRun 17 4) = true := by kernel_rfl
theorem lines_run17_4_4 : (((List.range 5).drop 4).take 2).all (linesRun 17 4) = true := by kernel_rfl
theorem lines_run17_4 : (List.range 5).all (linesRun 17 4) = true := by
  refine cut_all5 2 _ lines_run17_4_0 ?_
  refine cut_all5 2 _ lines_run17_4_2 ?_
  rw [List.drop_drop]
  refine cut_all5 2 _ lines_run17_4_4 ?_
  kernel_rfl
theorem lines_run18_0_0 : (((List.range 5).drop 0).take 2).all (linesRun 18 0) = true := by kernel_rfl
theorem lines_run18_0_2 : (((List.range 5).drop 2).take 2).all (linesRun 18 0) = true := by kernel_rfl
theorem lines_run18_0_4 : (((List.range 5).drop 4).take 2).all (linesRun 18 0) = true := by kernel_rfl
theorem lines_run18_0 : (List.range 5).all (linesRun 18 0) = true := by
  refine cut_all5 2 _ lines_run18_0_0 ?_
  refine cut_all5 2 _ lines_run18_0_2 ?_
  rw [List.drop_drop]
  refine cut_all5 2 _ lines_run18_0_4 ?_
  kernel_rfl
theorem lines_run18_3_0 : (((List.range 5).drop 0).take 2).all (linesRun 18 3) = true := by kernel_rfl
theorem lines_run18_3_2 : (((List.range 5).drop 2).take 2).all (linesRun 18 3) = true := by kernel_rfl
theorem lines_run18_3_4 : (((List.range 5).drop 4).take 2).all (linesRun 18 3) = true := by kernel_rfl
theorem lines_run18_3 : (List.range 5).all (linesRun 18 3) = true := by
  refine cut_all5 2 _ lines_run18_3_0 ?_
  refine cut_all5 2 _ lines_run18_3_2 ?_
  rw [List.drop_drop]
  refine cut_all5 2 _ lines_run18_3_4 ?_
  kernel_rfl
theorem lines_run19_1_0 : (((List.range 5).drop 0).take 2).all (linesRun 19 1) = true := by kernel_rfl
theorem lines_run19_1_2 : (((List.range 5).drop 2).take 2).all (linesRun 19 1) = true := by kernel_rfl
theorem lines_run19_1_4 : (((List.range 5).drop 4).take 2).all (linesRun 19 1) = true := by kernel_rfl
theorem lines_run19_1 : (List.range 5).all (linesRun 19 1) = true := by
  refine cut_all5 2 _ lines_run19_1_0 ?_
  refine cut_all5 2 _ lines_run19_1_2 ?_
  rw [List.drop_drop]
  refine cut_all5 2 _ lines_run19_1_4 ?_
  kernel_rfl
end Go.Proofs.YtfgokimdbodjaaaDoor
