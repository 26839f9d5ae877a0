/- Pairs of pieces, part 4. -/
import Derived.Test.YtfgokimdbodjaaaDoorLexTabs
namespace Go.Proofs.YtfgokimdbodjaaaDoor
open Go.RowKit Go.Am
set_option maxRecDepth 100000
theorem two_run42_0 : (((List.range 54).drop 0).take 18).all (twoRun 42) = true := by kernel_rfl
theorem two_run42_18 : (((List.range 54).drop 18).take 18).all (twoRun 42) = true := by kernel_rfl
theorem two_run42_36 : (((List.range 54).drop 36).take 18).all (twoRun 42) = true := by kernel_rfl
theorem two_run42 : (List.range 54).all (twoRun 42) = true := by
  refine all_cut 18 _ two_run42_0 ?_
  refine all_cut 18 _ two_run42_18 ?_
  rw [List.drop_drop]
  refine all_cut 18 _ two_run42_36 ?_
  kernel_rfl
theorem two_run43_0 : (((List.range 54).drop 0).take 18).all (twoRun 43) = true := by kernel_rfl
theorem two_run43_18 : (((List.range 54).drop 18).take 18).all (twoRun 43) = true := by kernel_rfl
theorem two_run43_36 : (((List.range 54).drop 36).take 18).all (twoRun 43) = true := by kernel_rfl
theorem two_run43 : (List.range 54).all (twoRun 43) = true := by
  refine all_cut 18 _ two_run43_0 ?_
  refine all_cut 18 _ two_run43_18 ?_
  rw [List.drop_drop]
  refine all_cut 18 _ two_run43_36 ?_
  kernel_rfl
theorem two_run44_0 : (((List.range 54).drop 0).take 18).all (twoRun 44) = true := by kernel_rfl
theorem two_run44_18 : (((List.range 54).drop 18).take 18).all (twoRun 44) = true := by kernel_rfl
theorem two_run44_36 : (((List.range 54).drop 36).take 18).all (twoRun 44) = true := by kernel_rfl
theorem two_run44 : (List.range 54).all (twoRun 44) = true := by
  refine all_cut 18 _ two_run44_0 ?_
  refine all_cut 18 _ two_run44_18 ?_
  rw [List.drop_drop]
  refine all_cut 18 _ two_run44_36 ?_
  kernel_rfl
theorem two_run45_0 : (((List.range 54).drop 0).take 18).all (twoRun 45) = true := by kernel_rfl
theorem two_run45_18 : (((List.range 54).drop 18).take 18).all (twoRun 45) = true := by kernel_rfl
theorem two_run45_36 : (((List.range 54).drop 36).take 18).all (twoRun 45) = true := by kernel_rfl
theorem two_run45 : (List.range 54).all (twoRun 45) = true := by
  refine all_cut 18 _ two_run45_0 ?_
  refine all_cut 18 _ two_run45_18 ?_
  rw [List.drop_drop]
  refine all_cut 18 _ two_run45_36 ?_
  kernel_rfl
theorem two_run46_0 : (((List.range 54).drop 0).take 18).all (twoRun 46) = true := by kernel_rfl
theorem two_run46_18 : (((List.range 54).drop 18).take 18).all (twoRun 46) = true := by kernel_rfl
theorem two_run46_36 : (((List.range 54).drop 36).take 18).all (twoRun 46) = true := by kernel_rfl
theorem two_run46 : (List.range 54).all (twoRun 46) = true := by
  refine all_cut 18 _ two_run46_0 ?_
  refine all_cut 18 _ two_run46_18 ?_
  rw [List.drop_drop]
  refine all_cut 18 _ two_run46_36 ?_
  kernel_rfl
theorem two_run47_0 : (((List.range 54).drop 0).take 18).all (twoRun 47) = true := by kernel_rfl
theorem two_run47_18 : (((List.range 54).drop 18).take 18).all (twoRun 47) = true := by kernel_rfl
theorem two_run47_36 : (((List.range 54).drop 36).take 18).all (twoRun 47) = true := by kernel_rfl
theorem two_run47 : (List.range 54).all (twoRun 47) = true := by
  refine all_cut 18 _ two_run47_0 ?_
  refine all_cut 18 _ two_run47_18 ?_
  rw [List.drop_drop]
  refine all_cut 18 _ two_run47_36 ?_
  kernel_rfl
theorem two_run48_0 : (((List.range 54).drop 0).take 18).all (twoRun 48) = true := by kernel_rfl
theorem two_run48_18 : (((List.range 54).drop 18).take 18).all (twoRun 48) = true := by kernel_rfl
theorem two_run48_36 : (((List.range 54).drop 36).take 18).all (twoRun 48) = true := by kernel_rfl
theorem two_run48 : (List.range 54).all (twoRun 48) = true := by
  refine all_cut 18 _ two_run48_0 ?_
  refine all_cut 18 _ two_run48_18 ?_
  rw [List.drop_drop]
  refine all_cut 18 _ two_run48_36 ?_
  kernel_rfl
theorem two_run49_0 : (((List.range 54).drop 0).take 18).all (twoRun 49) = true := by kernel_rfl
theorem two_run49_18 : (((List.range 54).drop 18).take 18).all (twoRun 49) = true := by kernel_rfl
theorem two_run49_36 : (((List.range 54).drop 36).take 18).all (twoRun 49) = true := by kernel_rfl
theorem two_run49 : (List.range 54).all (twoRun 49) = true := by
  refine all_cut 18 _ two_run49_0 ?_
  refine all_cut 18 _ two_run49_18 ?_
  rw [List.drop_drop]
  refine all_cut 18 _ two_run49_36 ?_
  kernel_rfl
theorem two_run50_0 : (((List.range 54).drop 0).take 18).all (twoRun 50) = true := by kernel_rfl
theorem two_run50_18 : (((List.range 54).drop 18).take 18).all (twoRun 50) = true := by kernel_rfl
theorem two_run50_36 : (((List.range 54).drop 36).take 18).all (twoRun 50) = true := by kernel_rfl
theorem two_run50 : (List.range 54).all (twoRun 50) = true := by
  refine all_cut 18 _ two_run50_0 ?_
  refine all_cut 18 _ two_run50_18 ?_
  rw [List.drop_drop]
  refine all_cut 18 _ two_run50_36 ?_
  kernel_rfl
theorem two_run51_0 : (((List.range 54).drop 0).take 18).all (twoRun 51) = true := by kernel_rfl
theorem two_run51_18 : (((List.range 54).drop 18).take 18).all (twoRun 51) = true := by kernel_rfl
theorem two_run51_36 : (((List.range 54).drop 36).take 18).all (twoRun 51) = true := by kernel_rfl
theorem two_run51 : (List.range 54).all (twoRun 51) = true := by
  refine all_cut 18 _ two_run51_0 ?_
  refine all_cut 18 _ two_run51_18 ?_
  rw [List.drop_drop]
  refine all_cut 18 _ two_run51_36 ?_
  kernel_rfl
theorem two_run52_0 : (((List.range 54).drop 0).take 18).all (twoRun 52) = true := by kernel_rfl
theorem two_run52_18 : (((List.range 54).drop 18).take 18).all (twoRun 52) = true := by kernel_rfl
theorem two_run52_36 : (((List.range 54).drop 36).take 18).all (twoRun 52) = true := by kernel_rfl
theorem two_run52 : (List.range 54).all (twoRun 52) = true := by
  refine all_cut 18 _ two_run52_0 ?_
  refine all_cut 18 _ two_run52_18 ?_
  rw [List.drop_drop]
  refine all_cut 18 _ two_run52_36 ?_
  kernel_rfl
theorem two_run53_0 : (((List.range 54).drop 0).take 18).all (twoRun 53) = true := by kernel_rfl
theorem two_run53_18 : (((List.range 54).drop 18).take 18).all (twoRun 53) = true := by kernel_rfl
theorem two_run53_36 : (((List.range 54).drop 36).take 18).all (twoRun 53) = true := by kernel_rfl
theorem two_run53 : (List.range 54).all (twoRun 53) = true := by
  refine all_cut 18 _ two_run53_0 ?_
  refine all_cut 18 _ two_run53_18 ?_
  rw [List.drop_drop]
  refine all_cut 18 _ two_run53_36 ?_
  kernel_rfl
end Go.Proofs.YtfgokimdbodjaaaDoor
