/- TurtleLabels, runs, part 4. -/
import Derived.Test.YtgkljnlfpgcjaaaGreatDoorLabTabs
namespace Go.Proofs.YtgkljnlfpgcjaaaGreatDoor
open Go.RowKit Go.Am
set_option maxRecDepth 100000
theorem lab_is0_2_1 : labIs 0 2 true = true := by kernel_rfl
theorem lab_is0_3_1 : labIs 0 3 true = true := by kernel_rfl
theorem lab_is0_6_1 : labIs 0 6 true = true := by kernel_rfl
theorem lab_is0_7_1 : labIs 0 7 true = true := by kernel_rfl
theorem lab_is1_0_1 : labIs 1 0 true = true := by kernel_rfl
theorem lab_is1_3_1 : labIs 1 3 true = true := by kernel_rfl
theorem lab_is1_4_1 : labIs 1 4 true = true := by kernel_rfl
theorem lab_is1_7_1 : labIs 1 7 true = true := by kernel_rfl
theorem lab_is1_8_1 : labIs 1 8 true = true := by kernel_rfl
theorem lab_is2_1_1 : labIs 2 1 true = true := by kernel_rfl
theorem lab_is2_2_1 : labIs 2 2 true = true := by kernel_rfl
theorem lab_is2_5_1 : labIs 2 5 true = true := by kernel_rfl
theorem lab_is2_6_1 : labIs 2 6 true = true := by kernel_rfl
theorem lab_is3_0_1 : labIs 3 0 true = true := by kernel_rfl
theorem lab_is3_3_1 : labIs 3 3 true = true := by kernel_rfl
theorem lab_is3_4_1 : labIs 3 4 true = true := by kernel_rfl
theorem lab_is3_7_1 : labIs 3 7 true = true := by kernel_rfl
theorem lab_is3_8_1 : labIs 3 8 true = true := by kernel_rfl
theorem lab_is4_1_1 : labIs 4 1 true = true := by kernel_rfl
theorem lab_is4_2_1 : labIs 4 2 true = true := by kernel_rfl
theorem lab_is4_5_1 : labIs 4 5 true = true := by kernel_rfl
theorem lab_is4_6_1 : labIs 4 6 true = true := by kernel_rfl
end Go.Proofs.YtgkljnlfpgcjaaaGreatDoor
