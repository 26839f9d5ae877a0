/- Pairs of pieces, part 2. -/
import Derived.Test.YtfgokimdbodjaaaDoorLexTabs
namespace Go.Proofs.YtfgokimdbodjaaaDoor
open Go.RowKit Go.Am
set_option maxRecDepth 100000
theorem two_run14_0 : (((List.range 54).drop 0).take 18).all (twoRun 14) = true := by kernel_rfl
theorem two_run14_18 : (((List.range 54).drop 18).take 18).all (twoRun 14) = true := by kernel_rfl
theorem two_run14_36 : (((List.range 54).drop 36).take 18).all (twoRun 14) = true := by kernel_rfl
theorem two_run14 : (List.range 54).all (twoRun 14) = true := by
  refine all_cut 18 _ two_run14_0 ?_
  refine all_cut 18 _ two_run14_18 ?_
  rw [List.drop_drop]
  refine all_cut 18 _ two_run14_36 ?_
  kernel_rfl
theorem two_run15_0 : (((List.range 54).drop 0).take 18).all (twoRun 15) = true := by kernel_rfl
theorem two_run15_18 : (((List.range 54).drop 18).take 18).all (twoRun 15) = true := by kernel_rfl
theorem two_run15_36 : (((List.range 54).drop 36).take 18).all (twoRun 15) = true := by kernel_rfl
theorem two_run15 : (List.range 54).all (twoRun 15) = true := by
  refine all_cut 18 _ two_run15_0 ?_
  refine all_cut 18 _ two_run15_18 ?_
  rw [List.drop_drop]
  refine all_cut 18 _ two_run15_36 ?_
  kernel_rfl
theorem two_run16_0 : (((List.range 54).drop 0).take 18).all (twoRun 16) = true := by kernel_rfl
theorem two_run16_18 : (((List.range 54).drop 18).take 18).all (twoRun 16) = true := by kernel_rfl
theorem two_run16_36 : (((List.range 54).drop 36).take 18).all (twoRun 16) = true := by kernel_rfl
theorem two_run16 : (List.range 54).all (twoRun 16) = true := by
  refine all_cut 18 _ two_run16_0 ?_
  refine all_cut 18 _ two_run16_18 ?_
  rw [List.drop_drop]
  refine all_cut 18 _ two_run16_36 ?_
  kernel_rfl
theorem two_run17_0 : (((List.range 54).drop 0).take 18).all (twoRun 17) = true := by kernel_rfl
theorem two_run17_18 : (((List.range 54).drop 18).take 18).all (twoRun 17) = true := by kernel_rfl
theorem two_run17_36 : (((List.range 54).drop 36).take 18).all (twoRun 17) = true := by kernel_rfl
theorem two_run17 : (List.range 54).all (twoRun 17) = true := by
  refine all_cut 18 _ two_run17_0 ?_
  refine all_cut 18 _ two_run17_18 ?_
  rw [List.drop_drop]
  refine all_cut 18 _ two_run17_36 ?_
  kernel_rfl
theorem two_run18_0 : (((List.range 54).drop 0).take 18).all (twoRun 18) = true := by kernel_rfl
theorem two_run18_18 : (((List.range 54).drop 18).take 18).all (twoRun 18) = true := by kernel_rfl
theorem two_run18_36 : (((List.range 54).drop 36).take 18).all (twoRun 18) = true := by kernel_rfl
theorem two_run18 : (List.range 54).all (twoRun 18) = true := by
  refine all_cut 18 _ two_run18_0 ?_
  refine all_cut 18 _ two_run18_18 ?_
  rw [List.drop_drop]
  refine all_cut 18 _ two_run18_36 ?_
  kernel_rfl
theorem two_run19_0 : (((List.range 54).drop 0).take 18).all (twoRun 19) = true := by kernel_rfl
theorem two_run19_18 : (((List.range 54).drop 18).take 18).all (twoRun 19) = true := by kernel_rfl
theorem two_run19_36 : (((List.range 54).drop 36).take 18).all (twoRun 19) = true := by kernel_rfl
theorem two_run19 : (List.range 54).all (twoRun 19) = true := by
  refine all_cut 18 _ two_run19_0 ?_
  refine all_cut 18 _ two_run19_18 ?_
  rw [List.drop_drop]
  refine all_cut 18 _ two_run19_36 ?_
  kernel_rfl
theorem two_run20_0 : (((List.range 54).drop 0).take 18).all (twoRun 20) = true := by kernel_rfl
theorem two_run20_18 : (((List.range 54).drop 18).take 18).all (twoRun 20) = true := by kernel_rfl
theorem two_run20_36 : (((List.range 54).drop 36).take 18).all (twoRun 20) = true := by kernel_rfl
theorem two_run20 : (List.range 54).all (twoRun 20) = true := by
  refine all_cut 18 _ two_run20_0 ?_
  refine all_cut 18 _ two_run20_18 ?_
  rw [List.drop_drop]
  refine all_cut 18 _ two_run20_36 ?_
  kernel_rfl
theorem two_run21_0 : (((List.range 54).drop 0).take 18).all (twoRun 21) = true := by kernel_rfl
theorem two_run21_18 : (((List.range 54).drop 18).take 18).all (twoRun 21) = true := by kernel_rfl
theorem two_run21_36 : (((List.range 54).drop 36).take 18).all (twoRun 21) = true := by kernel_rfl
theorem two_run21 : (List.range 54).all (twoRun 21) = true := by
  refine all_cut 18 _ two_run21_0 ?_
  refine all_cut 18 _ two_run21_18 ?_
  rw [List.drop_drop]
  refine all_cut 18 _ two_run21_36 ?_
  kernel_rfl
theorem two_run22_0 : (((List.range 54).drop 0).take 18).all (twoRun 22) = true := by kernel_rfl
theorem two_run22_18 : (((List.range 54).drop 18).take 18).all (twoRun 22) = true := by kernel_rfl
theorem two_run22_36 : (((List.range 54).drop 36).take 18).all (twoRun 22) = true := by kernel_rfl
theorem two_run22 : (List.range 54).all (twoRun 22) = true := by
  refine all_cut 18 _ two_run22_0 ?_
  refine all_cut 18 _ two_run22_18 ?_
  rw [List.drop_drop]
  refine all_cut 18 _ two_run22_36 ?_
  kernel_rfl
theorem two_run23_0 : (((List.range 54).drop 0).take 18).all (twoRun 23) = true := by kernel_rfl
theorem two_run23_18 : (((List.range 54).drop 18).take 18).all (twoRun 23) = true := by kernel_rfl
theorem two_run23_36 : (((List.range 54).drop 36).take 18).all (twoRun 23) = true := by kernel_rfl
theorem two_run23 : (List.range 54).all (twoRun 23) = true := by
  refine all_cut 18 _ two_run23_0 ?_
  refine all_cut 18 _ two_run23_18 ?_
  rw [List.drop_drop]
  refine all_cut 18 _ two_run23_36 ?_
  kernel_rfl
theorem two_run24_0 : (((List.range 54).drop 0).take 18).all (twoRun 24) = true := by kernel_rfl
theorem two_run24_18 : (((List.range 54).drop 18).take 18).all (twoRun 24) = true := by kernel_rfl
theorem two_run24_36 : (((List.range 54).drop 36).take 18).all (twoRun 24) = true := by kernel_rfl
theorem two_run24 : (List.range 54).all (twoRun 24) = true := by
  refine all_cut 18 _ two_run24_0 ?_
  refine all_cut 18 _ two_run24_18 ?_
  rw [List.drop_drop]
  refine all_cut 18 _ two_run24_36 ?_
  kernel_rfl
theorem two_run25_0 : (((List.range 54).drop 0).take 18).all (twoRun 25) = true := by kernel_rfl
theorem two_run25_18 : (((List.range 54).drop 18).take 18).all (twoRun 25) = true := by kernel_rfl
theorem two_run25_36 : (((List.range 54).drop 36).take 18).all (twoRun 25) = true := by kernel_rfl
theorem two_run25 : (List.range 54).all (twoRun 25) = true := by
  refine all_cut 18 _ two_run25_0 ?_
  refine all_cut 18 _ two_run25_18 ?_
  rw [List.drop_drop]
  refine all_cut 18 _ two_run25_36 ?_
  kernel_rfl
theorem two_run26_0 : (((List.range 54).drop 0).take 18).all (twoRun 26) = true := by kernel_rfl
theorem two_run26_18 : (((List.range 54).drop 18).take 18).all (twoRun 26) = true := by kernel_rfl
theorem two_run26_36 : (((List.range 54).drop 36).take 18).all (twoRun 26) = true := by kernel_rfl
theorem two_run26 : (List.range 54).all (twoRun 26) = true := by
  refine all_cut 18 _ two_run26_0 ?_
  refine all_cut 18 _ two_run26_18 ?_
  rw [List.drop_drop]
  refine all_cut 18 _ two_run26_36 ?_
  kernel_rfl
theorem two_run27_0 : (((List.range 54).drop 0).take 18).all (twoRun 27) = true := by kernel_rfl
theorem two_run27_18 : (((List.range 54).drop 18).take 18).all (twoRun 27) = true := by kernel_rfl
theorem two_run27_36 : (((List.range 54).drop 36).take 18).all (twoRun 27) = true := by kernel_rfl
theorem two_run27 : (List.range 54).all (twoRun 27) = true := by
  refine all_cut 18 _ two_run27_0 ?_
  refine all_cut 18 _ two_run27_18 ?_
  rw [List.drop_drop]
  refine all_cut 18 _ two_run27_36 ?_
  kernel_rfl
end Go.Proofs.YtfgokimdbodjaaaDoor
