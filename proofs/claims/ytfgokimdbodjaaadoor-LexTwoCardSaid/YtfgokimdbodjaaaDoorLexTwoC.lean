/- Pairs of pieces, part 3. -/
import Derived.Test.YtfgokimdbodjaaaDoorLexTabs
namespace Go.Proofs.YtfgokimdbodjaaaDoor
open Go.RowKit Go.Am
set_option maxRecDepth 100000
theorem two_run28 : (List.range 54).all (twoRun 28) = true := by kernel_rfl
theorem two_run29 : (List.range 54).all (twoRun 29) = true := by kernel_rfl
theorem two_run30 : (List.range 54).all (twoRun 30) = true := by kernel_rfl
theorem two_run31 : (List.range 54).all (twoRun 31) = true := by kernel_rfl
theorem two_run32 : (List.range 54).all (twoRun 32) = true := by kernel_rfl
theorem two_run33 : (List.range 54).all (twoRun 33) = true := by kernel_rfl
theorem two_run34 : (List.range 54).all (twoRun 34) = true := by kernel_rfl
theorem two_run35 : (List.range 54).all (twoRun 35) = true := by kernel_rfl
theorem two_run36 : (List.range 54).all (twoRun 36) = true := by kernel_rfl
theorem two_run37 : (List.range 54).all (twoRun 37) = true := by kernel_rfl
theorem two_run38 : (List.range 54).all (twoRun 38) = true := by kernel_rfl
theorem two_run39 : (List.range 54).all (twoRun 39) = true := by kernel_rfl
theorem two_run40 : (List.range 54).all (twoRun 40) = true := by kernel_rfl
theorem two_run41 : (List.range 54).all (twoRun 41) = true := by kernel_rfl
end Go.Proofs.YtfgokimdbodjaaaDoor
