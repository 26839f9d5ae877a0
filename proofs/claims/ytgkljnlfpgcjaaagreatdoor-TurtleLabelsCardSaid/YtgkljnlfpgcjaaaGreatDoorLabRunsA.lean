/- TurtleLabels, runs, part 1. -/
import Derived.Test.YtgkljnlfpgcjaaaGreatDoorLabTabs
namespace Go.Proofs.YtgkljnlfpgcjaaaGreatDoor
open Go.RowKit Go.Am
set_option maxRecDepth 100000
theorem lab_is0_0_0 : labIs 0 0 false = true := by kernel_rfl
theorem lab_is0_1_0 : labIs 0 1 false = true := by kernel_rfl
theorem lab_is0_4_0 : labIs 0 4 false = true := by kernel_rfl
theorem lab_is0_5_0 : labIs 0 5 false = true := by kernel_rfl
theorem lab_is0_8_0 : labIs 0 8 false = true := by kernel_rfl
theorem lab_is1_1_0 : labIs 1 1 false = true := by kernel_rfl
theorem lab_is1_2_0 : labIs 1 2 false = true := by kernel_rfl
theorem lab_is1_5_0 : labIs 1 5 false = true := by kernel_rfl
theorem lab_is1_6_0 : labIs 1 6 false = true := by kernel_rfl
theorem lab_is2_0_0 : labIs 2 0 false = true := by kernel_rfl
theorem lab_is2_3_0 : labIs 2 3 false = true := by kernel_rfl
theorem lab_is2_4_0 : labIs 2 4 false = true := by kernel_rfl
theorem lab_is2_7_0 : labIs 2 7 false = true := by kernel_rfl
theorem lab_is2_8_0 : labIs 2 8 false = true := by kernel_rfl
theorem lab_is3_1_0 : labIs 3 1 false = true := by kernel_rfl
theorem lab_is3_2_0 : labIs 3 2 false = true := by kernel_rfl
theorem lab_is3_5_0 : labIs 3 5 false = true := by kernel_rfl
theorem lab_is3_6_0 : labIs 3 6 false = true := by kernel_rfl
theorem lab_is4_0_0 : labIs 4 0 false = true := by kernel_rfl
theorem lab_is4_3_0 : labIs 4 3 false = true := by kernel_rfl
theorem lab_is4_4_0 : labIs 4 4 false = true := by kernel_rfl
theorem lab_is4_7_0 : labIs 4 7 false = true := by kernel_rfl
theorem lab_is4_8_0 : labIs 4 8 false = true := by kernel_rfl
end Go.Proofs.YtgkljnlfpgcjaaaGreatDoor
