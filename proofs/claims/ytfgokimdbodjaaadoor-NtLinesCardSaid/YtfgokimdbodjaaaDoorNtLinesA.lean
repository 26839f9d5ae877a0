/- Runs of NtLines, part 1. -/
import Derived.Test.YtfgokimdbodjaaaDoorNtRuns
namespace Go.Proofs.YtfgokimdbodjaaaDoor
open Go.RowKit Go.Am
set_option maxRecDepth 100000
theorem lines_run0_0 : (List.range 5).all (linesRun 0 0) = true := by kernel_rfl
theorem lines_run0_1 : (List.range 5).all (linesRun 0 1) = true := by kernel_rfl
theorem lines_run2_1 : (List.range 5).all (linesRun 2 1) = true := by kernel_rfl
theorem lines_run2_4 : (List.range 5).all (linesRun 2 4) = true := by kernel_rfl
theorem lines_run3_2 : (List.range 5).all (linesRun 3 2) = true := by kernel_rfl
theorem lines_run4_3 : (List.range 5).all (linesRun 4 3) = true := by kernel_rfl
theorem lines_run5_1 : (List.range 5).all (linesRun 5 1) = true := by kernel_rfl
theorem lines_run5_3 : (List.range 5).all (linesRun 5 3) = true := by kernel_rfl
theorem lines_run7_0 : (List.range 5).all (linesRun 7 0) = true := by kernel_rfl
theorem lines_run7_4 : (List.range 5).all (linesRun 7 4) = true := by kernel_rfl
theorem lines_run8_0 : (List.range 5).all (linesRun 8 0) = true := by kernel_rfl
theorem lines_run8_1 : (List.range 5).all (linesRun 8 1) = true := by kernel_rfl
theorem lines_run10_4_0 : (((List.range 5).drop 0).take 3).all (linesRun 10 4) = true := by kernel_rfl
theorem lines_run10_4_3 : (((List.range 5).drop 3).take 3).all (linesRun 10 4) = true := by kernel_rfl
theorem lines_run10_4 : (List.range 5).all (linesRun 10 4) = true := by
  refine cut_all5 3 _ lines_run10_4_0 ?_
  refine cut_all5 3 _ lines_run10_4_3 ?_
  kernel_rfl
theorem lines_run11_0_0 : (((List.range 5).drop 0).take 3).all (linesRun 11 0) = true := by kernel_rfl
theorem lines_run11_0_3 : (((List.range 5).drop 3).take 3).all (linesRun 11 0) = true := by kernel_rfl
theorem lines_run11_0 : (List.range 5).all (linesRun 11 0) = true := by
  refine cut_all5 3 _ lines_run11_0_0 ?_
  refine cut_all5 3 _ lines_run11_0_3 ?_
  kernel_rfl
theorem lines_run11_4_0 : (((List.range 5).drop 0).take 3).all (linesRun 11 4) = true := by kernel_rfl
theorem lines_run11_4_3 : (((List.range 5).drop 3).take 3).all (linesRun 11 4) = true := by kernel_rfl
theorem lines_run11_4 : (List.range 5).all (linesRun 11 4) = true := by
  refine cut_all5 3 _ lines_run11_4_0 ?_
  refine cut_all5 3 _ lines_run11_4_3 ?_
  kernel_rfl
theorem lines_run12_1_0 : (((List.range 5).drop 0).take 3).all (linesRun 12 1) = true := by kernel_rfl
theorem lines_run12_1_3 : (((List.range 5).drop 3).take 3).all (linesRun 12 1) = true := by kernel_rfl
theorem lines_run12_1 : (List.range 5).all (linesRun 12 1) = true := by
  refine cut_all5 3 _ lines_run12_1_0 ?_
  refine cut_all5 3 _ lines_run12_1_3 ?_
  kernel_rfl
theorem lines_run13_0_0 : (((List.range 5).drop 0).take 3).all (linesRun 13 0) = true := by kernel_rfl
theorem lines_run13_0_3 : (((List.range 5).drop 3).take 3).all (linesRun 13 0) = true := by kernel_rfl
theorem lines_run13_0 : (List.range 5).all (linesRun 13 0) = true := by
  refine cut_all5 3 _ lines_run13_0_0 ?_
  refine cut_all5 3 _ lines_run13_0_3 ?_
  kernel_rfl
theorem lines_run13_2_0 : (((List.range 5).drop 0).take 3).all (linesRun 13 2) = true := by kernel_rfl
theorem lines_run13_2_3 : (((List.range 5).drop 3).take 3).all (linesRun 13 2) = true := by kernel_rfl
theorem lines_run13_2 : (List.range 5).all (linesRun 13 2) = true := by
  refine cut_all5 3 _ lines_run13_2_0 ?_
  refine cut_all5 3 _ lines_run13_2_3 ?_
  kernel_rfl
theorem lines_run14_1_0 : (((List.range 5).drop 0).take 2).all (linesRun 14 1) = true := by kernel_rfl
theorem lines_run14_1_2 : (((List.range 5).drop 2).take 2).all (linesRun 14 1) = true := by kernel_rfl
theorem lines_run14_1_4 : (((List.range 5).drop 4).take 2).all (linesRun 14 1) = true := by kernel_rfl
theorem lines_run14_1 : (List.range 5).all (linesRun 14 1) = true := by
  refine cut_all5 2 _ lines_run14_1_0 ?_
  refine cut_all5 2 _ lines_run14_1_2 ?_
  rw [List.drop_drop]
  refine cut_all5 2 _ lines_run14_1_4 ?_
  kernel_rfl
theorem lines_run15_2_0 : (((List.range 5).drop 0).take 2).all (linesRun 15 2) = true := by kernel_rfl
theorem lines_run15_2_2 : (((List.range 5).drop 2).take 2).all (linesRun 15 2) = true := by kernel_rfl
theorem lines_run15_2_4 : (((List.range 5).drop 4).take 2).all (linesRun 15 2) = true := by kernel_rfl
theorem lines_run15_2 : (List.range 5).all (linesRun 15 2) = true := by
  refine cut_all5 2 _ lines_run15_2_0 ?_
  refine cut_all5 2 _ lines_run15_2_2 ?_
  rw [List.drop_drop]
  refine cut_all5 2 _ lines_run15_2_4 ?_
  kernel_rfl
theorem lines_run16_3_0 : (((List.range 5).drop 0).take 2).all (linesRun 16 3) = true := by kernel_rfl
theorem lines_run16_3_2 : (((List.range 5).drop 2).take 2).all (linesRun 16 3) = true := by kernel_rfl
theorem lines_run16_3_4 : (((List.range 5).drop 4).take 2).all (linesRun 16 3) = true := by kernel_rfl
theorem lines_run16_3 : (List.range 5).all (linesRun 16 3) = true := by
  refine cut_all5 2 _ lines_run16_3_0 ?_
  refine cut_all5 2 _ lines_run16_3_2 ?_
  rw [List.drop_drop]
  refine cut_all5 2 _ lines_run16_3_4 ?_
  kernel_rfl
theorem lines_run17_1_0 : (((List.range 5).drop 0).take 2).all (linesRun 17 1) = true := by kernel_rfl
theorem lines_run17_1_2 : (((List.range 5).drop 2).take 2).all (linesRun 17 1) = true := by kernel_rfl
theorem lines_run17_1_4 : (((List.range 5).drop 4).take 2).all (linesRun 17 1) = true := by kernel_rfl
theorem lines_run17_1 : (List.range 5).all (linesRun 17 1) = true := by
  refine cut_all5 2 _ lines_run17_1_0 ?_
  refine cut_all5 2 _ lines_run17_1_2 ?_
  rw [List.drop_drop]
  refine cut_all5 2 _ lines_run17_1_4 ?_
  kernel_rfl
theorem lines_run17_3_0 : (((List.range 5).drop 0).take 2).all (linesRun 17 3) = true := by kernel_rfl
theorem lines_run17_3_2 : (((List.range 5).drop 2).take 2).all (linesRun 17 3) = true := by kernel_rfl
theorem lines_run17_3_4 : (((List.range 5).drop 4).take 2).all (linesRun 17 3) = true := by kernel_rfl
theorem lines_run17_3 : (List.range 5).all (linesRun 17 3) = true := by
  refine cut_all5 2 _ lines_run17_3_0 ?_
  refine cut_all5 2 _ lines_run17_3_2 ?_
  rw [List.drop_drop]
  refine cut_all5 2 _ lines_run17_3_4 ?_
  kernel_rfl
theorem lines_run19_0_0 : (((List.range 5).drop 0).take 2).all (linesRun 19 0) = true := by kernel_rfl
theorem lines_run19_0_2 : (((List.range 5).drop 2).take 2).all (linesRun 19 0) = true := by kernel_rfl
theorem lines_run19_0_4 : (((List.range 5).drop 4).take 2).all (linesRun 19 0) = true := by kernel_rfl
theorem lines_run19_0 : (List.range 5).all (linesRun 19 0) = true := by
  refine cut_all5 2 _ lines_run19_0_0 ?_
  refine cut_all5 2 _ lines_run19_0_2 ?_
  rw [List.drop_drop]
  refine cut_all5 2 _ lines_run19_0_4 ?_
  kernel_rfl
theorem lines_run19_4_0 : (((List.range 5).drop 0).take 2).all (linesRun 19 4) = true := by kernel_rfl
theorem lines_run19_4_2 : (((List.range 5).drop 2).take 2).all (linesRun 19 4) = true := by kernel_rfl
theorem lines_run19_4_4 : (((List.range 5).drop 4).take 2).all (linesRun 19 4) = true := by kernel_rfl
theorem lines_run19_4 : (List.range 5).all (linesRun 19 4) = true := by
  refine cut_all5 2 _ lines_run19_4_0 ?_
  refine cut_all5 2 _ lines_run19_4_2 ?_
  rw [List.drop_drop]
  refine cut_all5 2 _ lines_run19_4_4 ?_
  kernel_rfl
end Go.Proofs.YtfgokimdbodjaaaDoor
