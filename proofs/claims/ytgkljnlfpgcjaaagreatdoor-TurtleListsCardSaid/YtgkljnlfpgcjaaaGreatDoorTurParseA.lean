/- What the documents tell, part 1. -/
import Derived.Test.YtgkljnlfpgcjaaaGreatDoorTurTabs
namespace Go.Proofs.YtgkljnlfpgcjaaaGreatDoor
open Go.RowKit Go.Am
set_option maxRecDepth 100000
theorem parse_is0 : parseIs 0 = true := by kernel_rfl
theorem parse_is3 : parseIs 3 = true := by kernel_rfl
theorem parse_is6 : parseIs 6 = true := by kernel_rfl
theorem parse_is9 : parseIs 9 = true := by kernel_rfl
theorem parse_is12 : parseIs 12 = true := by kernel_rfl
theorem parse_is15 : parseIs 15 = true := by kernel_rfl
theorem parse_is18 : parseIs 18 = true := by kernel_rfl
theorem parse_is21 : parseIs 21 = true := by kernel_rfl
theorem parse_is24 : parseIs 24 = true := by kernel_rfl
theorem parse_is27 : parseIs 27 = true := by kernel_rfl
end Go.Proofs.YtgkljnlfpgcjaaaGreatDoor
