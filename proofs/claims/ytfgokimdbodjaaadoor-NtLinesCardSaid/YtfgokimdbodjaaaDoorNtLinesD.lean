/- Runs of NtLines, part 4. -/
import Derived.Test.YtfgokimdbodjaaaDoorNtRuns
namespace Go.Proofs.YtfgokimdbodjaaaDoor
open Go.RowKit Go.Am
set_option maxRecDepth 100000
theorem lines_run0_4 : (List.range 5).all (linesRun 0 4) = true := by kernel_rfl
theorem lines_run1_4 : (List.range 5).all (linesRun 1 4) = true := by kernel_rfl
theorem lines_run2_0 : (List.range 5).all (linesRun 2 0) = true := by kernel_rfl
theorem lines_run2_3 : (List.range 5).all (linesRun 2 3) = true := by kernel_rfl
theorem lines_run3_1 : (List.range 5).all (linesRun 3 1) = true := by kernel_rfl
theorem lines_run4_2 : (List.range 5).all (linesRun 4 2) = true := by kernel_rfl
theorem lines_run5_0 : (List.range 5).all (linesRun 5 0) = true := by kernel_rfl
theorem lines_run5_2 : (List.range 5).all (linesRun 5 2) = true := by kernel_rfl
theorem lines_run6_2 : (List.range 5).all (linesRun 6 2) = true := by kernel_rfl
theorem lines_run7_3 : (List.range 5).all (linesRun 7 3) = true := by kernel_rfl
theorem lines_run8_4 : (List.range 5).all (linesRun 8 4) = true := by kernel_rfl
theorem lines_run9_1 : (List.range 5).all (linesRun 9 1) = true := by kernel_rfl
theorem lines_run9_4 : (List.range 5).all (linesRun 9 4) = true := by kernel_rfl
theorem lines_run10_2_0 : (((List.range 5).drop 0).take 3).all (linesRun 10 2) = true := by kernel_rfl
theorem lines_run10_2_3 : (((List.range 5).drop 3).take 3).all (linesRun 10 2) = true := by kernel_rfl
theorem lines_run10_2 : (List.range 5).all (linesRun 10 2) = true := by
  refine cut_all5 3 _ lines_run10_2_0 ?_
  refine cut_all5 3 _ lines_run10_2_3 ?_
  kernel_rfl
theorem lines_run11_3_0 : (((List.range 5).drop 0).take 3).all (linesRun 11 3) = true := by kernel_rfl
theorem lines_run11_3_3 : (((List.range 5).drop 3).take 3).all (linesRun 11 3) = true := by kernel_rfl
theorem lines_run11_3 : (List.range 5).all (linesRun 11 3) = true := by
  refine cut_all5 3 _ lines_run11_3_0 ?_
  refine cut_all5 3 _ lines_run11_3_3 ?_
  kernel_rfl
theorem lines_run12_4_0 : (((List.range 5).drop 0).take 3).all (linesRun 12 4) = true := by kernel_rfl
theorem lines_run12_4_3 : (((List.range 5).drop 3).take 3).all (linesRun 12 4) = true := by kernel_rfl
theorem lines_run12_4 : (List.range 5).all (linesRun 12 4) = true := by
  refine cut_all5 3 _ lines_run12_4_0 ?_
  refine cut_all5 3 _ lines_run12_4_3 ?_
  kernel_rfl
theorem lines_run13_4_0 : (((List.range 5).drop 0).take 3).all (linesRun 13 4) = true := by kernel_rfl
theorem lines_run13_4_3 : (((List.range 5).drop 3).take 3).all (linesRun 13 4) = true := by kernel_rfl
theorem lines_run13_4 : (List.range 5).all (linesRun 13 4) = true := by
  refine cut_all5 3 _ lines_run13_4_0 ?_
  refine cut_all5 3 _ lines_run13_4_3 ?_
  kernel_rfl
theorem lines_run14_0_0 : (((List.range 5).drop 0).take 2).all (linesRun 14 0) = true := by kernel_rfl
theorem lines_run14_0_2 : (((List.range 5).drop 2).take 2).all (linesRun 14 0) = true := by kernel_rfl
theorem lines_run14_0_4 : (((List.range 5).drop 4).take 2).all (linesRun 14 0) = true := by kernel_rfl
theorem lines_run14_0 : (List.range 5).all (linesRun 14 0) = true := by
  refine cut_all5 2 _ lines_run14_0_0 ?_
  refine cut_all5 2 _ lines_run14_0_2 ?_
  rw [List.drop_drop]
  refine cut_all5 2 _ lines_run14_0_4 ?_
  kernel_rfl
theorem lines_run14_3_0 : (((List.range 5).drop 0).take 2).all (linesRun 14 3) = true := by kernel_rfl
theorem lines_run14_3_2 : (((List.range 5).drop 2).take 2).all (linesRun 14 3) = true := by kernel_rfl
theorem lines_run14_3_4 : (((List.range 5).drop 4).take 2).all (linesRun 14 3) = true := by kernel_rfl
theorem lines_run14_3 : (List.range 5).all (linesRun 14 3) = true := by
  refine cut_all5 2 _ lines_run14_3_0 ?_
  refine cut_all5 2 _ lines_run14_3_2 ?_
  rw [List.drop_drop]
  refine cut_all5 2 _ lines_run14_3_4 ?_
  kernel_rfl
theorem lines_run15_1_0 : (((List.range 5).drop 0).take 2).all (linesRun 15 1) = true := by kernel_rfl
theorem lines_run15_1_2 : (((List.range 5).drop 2).take 2).all (linesRun 15 1) = true := by kernel_rfl
theorem lines_run15_1_4 : (((List.range 5).drop 4).take 2).all (linesRun 15 1) = true := by kernel_rfl
theorem lines_run15_1 : (List.range 5).all (linesRun 15 1) = true := by
  refine cut_all5 2 _ lines_run15_1_0 ?_
  refine cut_all5 2 _ lines_run15_1_2 ?_
  rw [List.drop_drop]
  refine cut_all5 2 _ lines_run15_1_4 ?_
  kernel_rfl
theorem lines_run16_2_0 : (((List.range 5).drop 0).take 2).all (linesRun 16 2) = true := by kernel_rfl
theorem lines_run16_2_2 : (((List.range 5).drop 2).take 2).all (linesRun 16 2) = true := by kernel_rfl
theorem lines_run16_2_4 : (((List.range 5).drop 4).take 2).all (linesRun 16 2) = true := by kernel_rfl
theorem lines_run16_2 : (List.range 5).all (linesRun 16 2) = true := by
  refine cut_all5 2 _ lines_run16_2_0 ?_
  refine cut_all5 2 _ lines_run16_2_2 ?_
  rw [List.drop_drop]
  refine cut_all5 2 _ lines_run16_2_4 ?_
  kernel_rfl
theorem lines_run17_0_0 : (((List.range 5).drop 0).take 2).all (linesRun 17 0) = true := by kernel_rfl
theorem lines_run17_0_2 : (((List.range 5).drop 2).take 2).all (linesRun 17 0) = true := by kernel_rfl
theorem lines_run17_0_4 : (((List.range 5).drop 4).take 2).all (linesRun 17 0) = true := by kernel_rfl
theorem lines_run17_0 : (List.range 5).all (linesRun 17 0) = true := by
  refine cut_all5 2 _ lines_run17_0_0 ?_
  refine cut_all5 2 _ lines_run17_0_2 ?_
  rw [List.drop_drop]
  refine cut_all5 2 _ lines_run17_0_4 ?_
  kernel_rfl
theorem lines_run17_2_0 : (((List.range 5).drop 0).take 2).all (linesRun 17 2) = true := by kernel_rfl
theorem lines_run17_2_2 : (((List.range 5).drop 2).take 2).all (linesRun 17 2) = true := by kernel_rfl
theorem lines_run17_2_4 : (((List.range 5).drop 4).take 2).all (linesRun 17 2) = true := by kernel_rfl
theorem lines_run17_2 : (List.range 5).all (linesRun 17 2) = true := by
  refine cut_all5 2 _ lines_run17_2_0 ?_
  refine cut_all5 2 _ lines_run17_2_2 ?_
  rw [List.drop_drop]
  refine cut_all5 2 _ lines_run17_2_4 ?_
  kernel_rfl
theorem lines_run18_2_0 : (((List.range 5).drop 0).take 2).all (linesRun 18 2) = true := by kernel_rfl
theorem lines_run18_2_2 : (((List.range 5).drop 2).take 2).all (linesRun 18 2) = true := by kernel_rfl
theorem lines_run18_2_4 : (((List.range 5).drop 4).take 2).all (linesRun 18 2) = true := by kernel_rfl
theorem lines_run18_2 : (List.range 5).all (linesRun 18 2) = true := by
  refine cut_all5 2 _ lines_run18_2_0 ?_
  refine cut_all5 2 _ lines_run18_2_2 ?_
  rw [List.drop_drop]
  refine cut_all5 2 _ lines_run18_2_4 ?_
  kernel_rfl
theorem lines_run19_3_0 : (((List.range 5).drop 0).take 2).all (linesRun 19 3) = true := by kernel_rfl
theorem lines_run19_3_2 : (((List.range 5).drop 2).take 2).all (linesRun 19 3) = true := by kernel_rfl
theorem lines_run19_3_4 : (((List.range 5).drop 4).take 2).all (linesRun 19 3) = true := by kernel_rfl
theorem lines_run19_3 : (List.range 5).all (linesRun 19 3) = true := by
  refine cut_all5 2 _ lines_run19_3_0 ?_
  refine cut_all5 2 _ lines_run19_3_2 ?_
  rw [List.drop_drop]
  refine cut_all5 2 _ lines_run19_3_4 ?_
  kernel_rfl
end Go.Proofs.YtfgokimdbodjaaaDoor
