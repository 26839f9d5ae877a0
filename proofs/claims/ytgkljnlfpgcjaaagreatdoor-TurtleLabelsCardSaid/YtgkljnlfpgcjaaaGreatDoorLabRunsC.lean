/- TurtleLabels, runs, part 3. -/
import Derived.Test.YtgkljnlfpgcjaaaGreatDoorLabTabs
namespace Go.Proofs.YtgkljnlfpgcjaaaGreatDoor
open Go.RowKit Go.Am
set_option maxRecDepth 100000
theorem lab_is0_2_0 : labIs 0 2 false = true := by kernel_rfl
theorem lab_is0_3_0 : labIs 0 3 false = true := by kernel_rfl
theorem lab_is0_6_0 : labIs 0 6 false = true := by kernel_rfl
theorem lab_is0_7_0 : labIs 0 7 false = true := by kernel_rfl
theorem lab_is1_0_0 : labIs 1 0 false = true := by kernel_rfl
theorem lab_is1_3_0 : labIs 1 3 false = true := by kernel_rfl
theorem lab_is1_4_0 : labIs 1 4 false = true := by kernel_rfl
theorem lab_is1_7_0 : labIs 1 7 false = true := by kernel_rfl
theorem lab_is1_8_0 : labIs 1 8 false = true := by kernel_rfl
theorem lab_is2_1_0 : labIs 2 1 false = true := by kernel_rfl
theorem lab_is2_2_0 : labIs 2 2 false = true := by kernel_rfl
theorem lab_is2_5_0 : labIs 2 5 false = true := by kernel_rfl
theorem lab_is2_6_0 : labIs 2 6 false = true := by kernel_rfl
theorem lab_is3_0_0 : labIs 3 0 false = true := by kernel_rfl
theorem lab_is3_3_0 : labIs 3 3 false = true := by kernel_rfl
theorem lab_is3_4_0 : labIs 3 4 false = true := by kernel_rfl
theorem lab_is3_7_0 : labIs 3 7 false = true := by kernel_rfl
theorem lab_is3_8_0 : labIs 3 8 false = true := by kernel_rfl
theorem lab_is4_1_0 : labIs 4 1 false = true := by kernel_rfl
theorem lab_is4_2_0 : labIs 4 2 false = true := by kernel_rfl
theorem lab_is4_5_0 : labIs 4 5 false = true := by kernel_rfl
theorem lab_is4_6_0 : labIs 4 6 false = true := by kernel_rfl
end Go.Proofs.YtgkljnlfpgcjaaaGreatDoor
