/- TurtleLabels, runs, part 2. -/
import Derived.Test.YtgkljnlfpgcjaaaGreatDoorLabTabs
namespace Go.Proofs.YtgkljnlfpgcjaaaGreatDoor
open Go.RowKit Go.Am
set_option maxRecDepth 100000
theorem lab_is0_0_1 : labIs 0 0 true = true := by kernel_rfl
theorem lab_is0_1_1 : labIs 0 1 true = true := by kernel_rfl
theorem lab_is0_4_1 : labIs 0 4 true = true := by kernel_rfl
theorem lab_is0_5_1 : labIs 0 5 true = true := by kernel_rfl
theorem lab_is0_8_1 : labIs 0 8 true = true := by kernel_rfl
theorem lab_is1_1_1 : labIs 1 1 true = true := by kernel_rfl
theorem lab_is1_2_1 : labIs 1 2 true = true := by kernel_rfl
theorem lab_is1_5_1 : labIs 1 5 true = true := by kernel_rfl
theorem lab_is1_6_1 : labIs 1 6 true = true := by kernel_rfl
theorem lab_is2_0_1 : labIs 2 0 true = true := by kernel_rfl
theorem lab_is2_3_1 : labIs 2 3 true = true := by kernel_rfl
theorem lab_is2_4_1 : labIs 2 4 true = true := by kernel_rfl
theorem lab_is2_7_1 : labIs 2 7 true = true := by kernel_rfl
theorem lab_is2_8_1 : labIs 2 8 true = true := by kernel_rfl
theorem lab_is3_1_1 : labIs 3 1 true = true := by kernel_rfl
theorem lab_is3_2_1 : labIs 3 2 true = true := by kernel_rfl
theorem lab_is3_5_1 : labIs 3 5 true = true := by kernel_rfl
theorem lab_is3_6_1 : labIs 3 6 true = true := by kernel_rfl
theorem lab_is4_0_1 : labIs 4 0 true = true := by kernel_rfl
theorem lab_is4_3_1 : labIs 4 3 true = true := by kernel_rfl
theorem lab_is4_4_1 : labIs 4 4 true = true := by kernel_rfl
theorem lab_is4_7_1 : labIs 4 7 true = true := by kernel_rfl
theorem lab_is4_8_1 : labIs 4 8 true = true := by kernel_rfl
end Go.Proofs.YtgkljnlfpgcjaaaGreatDoor
