/- The runs of ParseDeep, by what its arguments come to. -/
import Derived.Test.YtcjjmgggjigjiaaGreatDoorParMore
namespace Go.Proofs.YtcjjmgggjigjiaaGreatDoor
open Go.RowKit Go.Am
set_option maxRecDepth 100000
noncomputable def parseDeepRun (x : Nat) (y : Nat) (z : Nat) : Bool := yes (run Tryz.prog (mores [⟨0, 12, x⟩, ⟨1, 12, y⟩, ⟨2, 3, z⟩]) 1000 4 [ghost Tryz.prog 0, ghost Tryz.prog 1, ghost Tryz.prog 2] (mem0 Tryz.prog 3))
theorem cut_all {p : Nat → Bool} {n : Nat} (k : Nat) (h1 : (List.range k).all p = true) (h2 : ∀ x, k ≤ x → x < n → p x = true) : (List.range n).all p = true := List.all_eq_true.2 fun x hx => by
  have hx' := List.mem_range.1 hx
  rcases Nat.lt_or_ge x k with h | h
  · exact List.all_eq_true.1 h1 x (List.mem_range.2 h)
  · exact h2 x h hx'
end Go.Proofs.YtcjjmgggjigjiaaGreatDoor
