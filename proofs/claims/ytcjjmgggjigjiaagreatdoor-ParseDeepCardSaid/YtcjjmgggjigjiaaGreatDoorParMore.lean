/- The hints of row and find, beside the others. -/
import Derived.Test.YtcjjmgggjigjiaaGreatDoorPreds
import Derived.Test.YtcjjmgggjigjiaaGreatDoorFind
namespace Go.Proofs.YtcjjmgggjigjiaaGreatDoor
open Go.RowKit Go.Am
noncomputable def moresL (l : List Mod) : List Hint := (160, findG) :: (rowL ++ pickL l)
noncomputable def mores (l : List Mod) : Hints := hints masks (moresL l)
theorem mores_ok {vs : List Value} {l : List Mod} (hl : ModsOk vs l) (base : Nat) (wo : World) (d : Nat → Prop) : KnownOk Tryz.prog base ((orig Tryz.prog vs wo).at d) (mores l) := hints_ok fun p hp => by
  rcases List.mem_cons.1 hp with rfl | hp
  · exact find_ok Tryz.func160 (by kernel_rfl) (by kernel_rfl) Find.finds
  · rcases List.mem_append.1 hp with hp | hp
    · exact rowL_ok _ _ p hp
    · exact pickL_ok hl base wo d p hp
end Go.Proofs.YtcjjmgggjigjiaaGreatDoor
