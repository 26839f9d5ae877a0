/- What the documents tell, part 3. -/
import Derived.Test.YtgkljnlfpgcjaaaGreatDoorTurTabs
namespace Go.Proofs.YtgkljnlfpgcjaaaGreatDoor
open Go.RowKit Go.Am
set_option maxRecDepth 100000
theorem parse_is2 : parseIs 2 = true := by kernel_rfl
theorem parse_is5 : parseIs 5 = true := by kernel_rfl
theorem parse_is8 : parseIs 8 = true := by kernel_rfl
theorem parse_is11 : parseIs 11 = true := by kernel_rfl
theorem parse_is14 : parseIs 14 = true := by kernel_rfl
theorem parse_is17 : parseIs 17 = true := by kernel_rfl
theorem parse_is20 : parseIs 20 = true := by kernel_rfl
theorem parse_is23 : parseIs 23 = true := by kernel_rfl
theorem parse_is26 : parseIs 26 = true := by kernel_rfl
theorem parse_is29 : parseIs 29 = true := by kernel_rfl
end Go.Proofs.YtgkljnlfpgcjaaaGreatDoor
