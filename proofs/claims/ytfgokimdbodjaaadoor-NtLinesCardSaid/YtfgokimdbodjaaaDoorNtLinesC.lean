/- Runs of NtLines, part 3. -/
import Derived.Test.YtfgokimdbodjaaaDoorNtRuns
namespace Go.Proofs.YtfgokimdbodjaaaDoor
open Go.RowKit Go.Am
set_option maxRecDepth 100000
theorem lines_run0_3 : (List.range 5).all (linesRun 0 3) = true := by kernel_rfl
theorem lines_run1_1 : (List.range 5).all (linesRun 1 1) = true := by kernel_rfl
theorem lines_run1_3 : (List.range 5).all (linesRun 1 3) = true := by kernel_rfl
theorem lines_run3_0 : (List.range 5).all (linesRun 3 0) = true := by kernel_rfl
theorem lines_run3_4 : (List.range 5).all (linesRun 3 4) = true := by kernel_rfl
theorem lines_run4_0 : (List.range 5).all (linesRun 4 0) = true := by kernel_rfl
theorem lines_run4_1 : (List.range 5).all (linesRun 4 1) = true := by kernel_rfl
theorem lines_run6_1 : (List.range 5).all (linesRun 6 1) = true := by kernel_rfl
theorem lines_run6_4 : (List.range 5).all (linesRun 6 4) = true := by kernel_rfl
theorem lines_run7_2 : (List.range 5).all (linesRun 7 2) = true := by kernel_rfl
theorem lines_run8_3 : (List.range 5).all (linesRun 8 3) = true := by kernel_rfl
theorem lines_run9_0 : (List.range 5).all (linesRun 9 0) = true := by kernel_rfl
theorem lines_run9_3 : (List.range 5).all (linesRun 9 3) = true := by kernel_rfl
theorem lines_run10_1_0 : (((List.range 5).drop 0).take 3).all (linesRun 10 1) = true := by kernel_rfl
theorem lines_run10_1_3 : (((List.range 5).drop 3).take 3).all (linesRun 10 1) = true := by kernel_rfl
theorem lines_run10_1 : (List.range 5).all (linesRun 10 1) = true := by
  refine cut_all5 3 _ lines_run10_1_0 ?_
  refine cut_all5 3 _ lines_run10_1_3 ?_
  kernel_rfl
theorem lines_run11_2_0 : (((List.range 5).drop 0).take 3).all (linesRun 11 2) = true := by kernel_rfl
theorem lines_run11_2_3 : (((List.range 5).drop 3).take 3).all (linesRun 11 2) = true := by kernel_rfl
theorem lines_run11_2 : (List.range 5).all (linesRun 11 2) = true := by
  refine cut_all5 3 _ lines_run11_2_0 ?_
  refine cut_all5 3 _ lines_run11_2_3 ?_
  kernel_rfl
theorem lines_run12_0_0 : (((List.range 5).drop 0).take 3).all (linesRun 12 0) = true := by kernel_rfl
theorem lines_run12_0_3 : (((List.range 5).drop 3).take 3).all (linesRun 12 0) = true := by kernel_rfl
theorem lines_run12_0 : (List.range 5).all (linesRun 12 0) = true := by
  refine cut_all5 3 _ lines_run12_0_0 ?_
  refine cut_all5 3 _ lines_run12_0_3 ?_
  kernel_rfl
theorem lines_run12_3_0 : (((List.range 5).drop 0).take 3).all (linesRun 12 3) = true := by kernel_rfl
theorem lines_run12_3_3 : (((List.range 5).drop 3).take 3).all (linesRun 12 3) = true := by kernel_rfl
theorem lines_run12_3 : (List.range 5).all (linesRun 12 3) = true := by
  refine cut_all5 3 _ lines_run12_3_0 ?_
  refine cut_all5 3 _ lines_run12_3_3 ?_
  kernel_rfl
theorem lines_run14_4_0 : (((List.range 5).drop 0).take 2).all (linesRun 14 4) = true := by kernel_rfl
theorem lines_run14_4_2 : (((List.range 5).drop 2).take 2).all (linesRun 14 4) = true := by kernel_rfl
theorem lines_run14_4_4 : (((List.range 5).drop 4).take 2).all (linesRun 14 4) = true := by kernel_rfl
theorem lines_run14_4 : (List.range 5).all (linesRun 14 4) = true := by
  refine cut_all5 2 _ lines_run14_4_0 ?_
  refine cut_all5 2 _ lines_run14_4_2 ?_
  rw [List.drop_drop]
  refine cut_all5 2 _ lines_run14_4_4 ?_
  kernel_rfl
theorem lines_run15_0_0 : (((List.range 5).drop 0).take 2).all (linesRun 15 0) = true := by kernel_rfl
theorem lines_run15_0_2 : (((List.range 5).drop 2).take 2).all (linesRun 15 0) = true := by kernel_rfl
theorem lines_run15_0_4 : (((List.range 5).drop 4).take 2).all (linesRun 15 0) = true := by kernel_rfl
theorem lines_run15_0 : (List.range 5).all (linesRun 15 0) = true := by
  refine cut_all5 2 _ lines_run15_0_0 ?_
  refine cut_all5 2 _ lines_run15_0_2 ?_
  rw [List.drop_drop]
  refine cut_all5 2 _ lines_run15_0_4 ?_
  kernel_rfl
theorem lines_run15_4_0 : (((List.range 5).drop 0).take 2).all (linesRun 15 4) = true := by kernel_rfl
theorem lines_run15_4_2 : (((List.range 5).drop 2).take 2).all (linesRun 15 4) = true := by kernel_rfl
theorem lines_run15_4_4 : (((List.range 5).drop 4).take 2).all (linesRun 15 4) = true := by kernel_rfl
theorem lines_run15_4 : (List.range 5).all (linesRun 15 4) = true := by
  refine cut_all5 2 _ lines_run15_4_0 ?_
  refine cut_all5 2 _ lines_run15_4_2 ?_
  rw [List.drop_drop]
  refine cut_all5 2 _ lines_run15_4_4 ?_
  kernel_rfl
theorem lines_run16_0_0 : (((List.range 5).drop 0).take 2).all (linesRun 16 0) = true := by kernel_rfl
theorem lines_run16_0_2 : (((List.range 5).drop 2).take 2).all (linesRun 16 0) = true := by kernel_rfl
theorem lines_run16_0_4 : (((List.range 5).drop 4).take 2).all (linesRun 16 0) = true := by kernel_rfl
theorem lines_run16_0 : (List.range 5).all (linesRun 16 0) = true := by
  refine cut_all5 2 _ lines_run16_0_0 ?_
  refine cut_all5 2 _ lines_run16_0_2 ?_
  rw [List.drop_drop]
  refine cut_all5 2 _ lines_run16_0_4 ?_
  kernel_rfl
theorem lines_run16_1_0 : (((List.range 5).drop 0).take 2).all (linesRun 16 1) = true := by kernel_rfl
theorem lines_run16_1_2 : (((List.range 5).drop 2).take 2).all (linesRun 16 1) = true := by kernel_rfl
theorem lines_run16_1_4 : (((List.range 5).drop 4).take 2).all (linesRun 16 1) = true := by kernel_rfl
theorem lines_run16_1 : (List.range 5).all (linesRun 16 1) = true := by
  refine cut_all5 2 _ lines_run16_1_0 ?_
  refine cut_all5 2 _ lines_run16_1_2 ?_
  rw [List.drop_drop]
  refine cut_all5 2 _ lines_run16_1_4 ?_
  kernel_rfl
theorem lines_run18_1_0 : (((List.range 5).drop 0).take 2).all (linesRun 18 1) = true := by kernel_rfl
theorem lines_run18_1_2 : (((List.range 5).drop 2).take 2).all (linesRun 18 1) = true := by kernel_rfl
theorem lines_run18_1_4 : (((List.range 5).drop 4).take 2).all (linesRun 18 1) = true := by kernel_rfl
theorem lines_run18_1 : (List.range 5).all (linesRun 18 1) = true := by
  refine cut_all5 2 _ lines_run18_1_0 ?_
  refine cut_all5 2 _ lines_run18_1_2 ?_
  rw [List.drop_drop]
  refine cut_all5 2 _ lines_run18_1_4 ?_
  kernel_rfl
theorem lines_run18_4_0 : (((List.range 5).drop 0).take 2).all (linesRun 18 4) = true := by kernel_rfl
theorem lines_run18_4_2 : (((List.range 5).drop 2).take 2).all (linesRun 18 4) = true := by kernel_rfl
theorem lines_run18_4_4 : (((List.range 5).drop 4).take 2).all (linesRun 18 4) = true := by kernel_rfl
theorem lines_run18_4 : (List.range 5).all (linesRun 18 4) = true := by
  refine cut_all5 2 _ lines_run18_4_0 ?_
  refine cut_all5 2 _ lines_run18_4_2 ?_
  rw [List.drop_drop]
  refine cut_all5 2 _ lines_run18_4_4 ?_
  kernel_rfl
theorem lines_run19_2_0 : (((List.range 5).drop 0).take 2).all (linesRun 19 2) = true := by kernel_rfl
theorem lines_run19_2_2 : (((List.range 5).drop 2).take 2).all (linesRun 19 2) = true := by kernel_rfl
theorem lines_run19_2_4 : (((List.range 5).drop 4).take 2).all (linesRun 19 2) = true := by kernel_rfl
theorem lines_run19_2 : (List.range 5).all (linesRun 19 2) = true := by
  refine cut_all5 2 _ lines_run19_2_0 ?_
  refine cut_all5 2 _ lines_run19_2_2 ?_
  rw [List.drop_drop]
  refine cut_all5 2 _ lines_run19_2_4 ?_
  kernel_rfl
end Go.Proofs.YtfgokimdbodjaaaDoor
