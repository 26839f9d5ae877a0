/- What the documents tell, part 2. -/
import Derived.Test.YtgkljnlfpgcjaaaGreatDoorTurTabs
namespace Go.Proofs.YtgkljnlfpgcjaaaGreatDoor
open Go.RowKit Go.Am
set_option maxRecDepth 100000
theorem parse_is1 : parseIs 1 = true := by kernel_rfl
theorem parse_is4 : parseIs 4 = true := by kernel_rfl
theorem parse_is7 : parseIs 7 = true := by kernel_rfl
theorem parse_is10 : parseIs 10 = true := by kernel_rfl
theorem parse_is13 : parseIs 13 = true := by kernel_rfl
theorem parse_is16 : parseIs 16 = true := by kernel_rfl
theorem parse_is19 : parseIs 19 = true := by kernel_rfl
theorem parse_is22 : parseIs 22 = true := by kernel_rfl
theorem parse_is25 : parseIs 25 = true := by kernel_rfl
theorem parse_is28 : parseIs 28 = true := by kernel_rfl
end Go.Proofs.YtgkljnlfpgcjaaaGreatDoor
