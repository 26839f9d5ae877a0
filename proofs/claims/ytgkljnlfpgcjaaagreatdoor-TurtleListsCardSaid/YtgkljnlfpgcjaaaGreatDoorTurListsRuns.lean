/- The runs of TurtleLists. -/
import Derived.Test.YtgkljnlfpgcjaaaGreatDoorTurTabs
namespace Go.Proofs.YtgkljnlfpgcjaaaGreatDoor
open Go.RowKit Go.Am
set_option maxRecDepth 100000
noncomputable def listsL (x : Nat) : List Hint := (9, madeG Tryz.prog.globals.size [(rowOf x, (docs x).2)]) :: pickL [⟨0, 30, x⟩]
noncomputable def listsRun (x : Nat) : Bool := yes (run Tryz.prog (hints masks (listsL x)) 1000 4 (ghosts Tryz.prog 1) (mem0 Tryz.prog 1))
theorem lists_run0 : listsRun 0 = true := by kernel_rfl
theorem lists_run1 : listsRun 1 = true := by kernel_rfl
theorem lists_run2 : listsRun 2 = true := by kernel_rfl
theorem lists_run3 : listsRun 3 = true := by kernel_rfl
theorem lists_run4 : listsRun 4 = true := by kernel_rfl
theorem lists_run5 : listsRun 5 = true := by kernel_rfl
theorem lists_run6 : listsRun 6 = true := by kernel_rfl
theorem lists_run7 : listsRun 7 = true := by kernel_rfl
theorem lists_run8 : listsRun 8 = true := by kernel_rfl
theorem lists_run9 : listsRun 9 = true := by kernel_rfl
theorem lists_run10 : listsRun 10 = true := by kernel_rfl
theorem lists_run11 : listsRun 11 = true := by kernel_rfl
theorem lists_run12 : listsRun 12 = true := by kernel_rfl
theorem lists_run13 : listsRun 13 = true := by kernel_rfl
theorem lists_run14 : listsRun 14 = true := by kernel_rfl
theorem lists_run15 : listsRun 15 = true := by kernel_rfl
theorem lists_run16 : listsRun 16 = true := by kernel_rfl
theorem lists_run17 : listsRun 17 = true := by kernel_rfl
theorem lists_run18 : listsRun 18 = true := by kernel_rfl
theorem lists_run19 : listsRun 19 = true := by kernel_rfl
theorem lists_run20 : listsRun 20 = true := by kernel_rfl
theorem lists_run21 : listsRun 21 = true := by kernel_rfl
theorem lists_run22 : listsRun 22 = true := by kernel_rfl
theorem lists_run23 : listsRun 23 = true := by kernel_rfl
theorem lists_run24 : listsRun 24 = true := by kernel_rfl
theorem lists_run25 : listsRun 25 = true := by kernel_rfl
theorem lists_run26 : listsRun 26 = true := by kernel_rfl
theorem lists_run27 : listsRun 27 = true := by kernel_rfl
theorem lists_run28 : listsRun 28 = true := by kernel_rfl
theorem lists_run29 : listsRun 29 = true := by kernel_rfl
end Go.Proofs.YtgkljnlfpgcjaaaGreatDoor
