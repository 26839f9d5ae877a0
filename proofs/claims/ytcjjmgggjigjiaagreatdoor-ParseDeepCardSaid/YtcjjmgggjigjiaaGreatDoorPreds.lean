/- Which bytes the scanner's function values let by; the hint of row. -/
import Derived.Test.YtcjjmgggjigjiaaGreatDoorParBase
import Derived.Test.YtcjjmgggjigjiaaGreatDoorRow
namespace Go.Proofs.YtcjjmgggjigjiaaGreatDoor
open Go.RowKit Go.Am
set_option maxRecDepth 100000
def letterP : Nat → Bool := fun c => (Nat.ble 97 c && Nat.ble c 122) || (Nat.ble 65 c && Nat.ble c 90)
theorem letterP_ok : Row.PredOk 84 letterP := Row.pred_of_runs (fun _ _ => plain_ok _ _) Tryz.func84 (by kernel_rfl) (by kernel_rfl) (fuel := 100) (by kernel_rfl)
def digitP : Nat → Bool := fun c => Nat.ble 48 c && Nat.ble c 57
theorem digitP_ok : Row.PredOk 88 digitP := Row.pred_of_runs (fun _ _ => plain_ok _ _) Tryz.func88 (by kernel_rfl) (by kernel_rfl) (fuel := 100) (by kernel_rfl)
def nameP : Nat → Bool := fun c => letterP c || (digitP c || Nat.beq c 95)
theorem nameP_ok : Row.PredOk 83 nameP := Row.pred_of_runs (fun _ _ => plain_ok _ _) Tryz.func83 (by kernel_rfl) (by kernel_rfl) (fuel := 100) (by kernel_rfl)
def blanksP : Nat → Bool := fun c => Nat.beq c 10 |> not
theorem blanksP_ok : Row.PredOk 78 blanksP := Row.pred_of_runs (fun _ _ => plain_ok _ _) Tryz.func78 (by kernel_rfl) (by kernel_rfl) (fuel := 100) (by kernel_rfl)
def iriP : Nat → Bool := fun c => Nat.blt 32 c && !(List.any [60, 62, 34, 123, 125, 124, 94, 92, 96] fun x => Nat.beq x c)
theorem iriP_ok : Row.PredOk 79 iriP := Row.pred_of_runs (fun _ _ => plain_ok _ _) Tryz.func79 (by kernel_rfl) (by kernel_rfl) (fuel := 100) (by kernel_rfl)
def nameAP : Nat → Bool := fun c => nameP c || Nat.beq c 45
theorem nameAP_ok : Row.PredOk 89 nameAP := Row.pred_of_runs (fun _ _ => plain_ok _ _) Tryz.func89 (by kernel_rfl) (by kernel_rfl) (fuel := 100) (by kernel_rfl)
def nameBP : Nat → Bool := fun c => nameP c || (Nat.beq c 45 || Nat.beq c 46)
theorem nameBP_ok : Row.PredOk 90 nameBP := Row.pred_of_runs (fun _ _ => plain_ok _ _) Tryz.func90 (by kernel_rfl) (by kernel_rfl) (fuel := 100) (by kernel_rfl)
noncomputable def predTab : PredTab := [(84, letterP), (88, digitP), (83, nameP), (78, blanksP), (79, iriP), (89, nameAP), (90, nameBP)]
theorem predTab_ok : Spans Tryz.prog 77 predTab := Row.spans fun q hq => by
  simp only [predTab, List.mem_cons, List.not_mem_nil, or_false] at hq
  rcases hq with rfl | rfl | rfl | rfl | rfl | rfl | rfl
  · exact letterP_ok
  · exact digitP_ok
  · exact nameP_ok
  · exact blanksP_ok
  · exact iriP_ok
  · exact nameAP_ok
  · exact nameBP_ok
noncomputable def rowL : List Hint := [(77, rowG predTab)]
theorem rowL_ok (base : Nat) (wo : Orig) : ∀ p ∈ rowL, HintOk Tryz.prog base wo p.1 p.2 := fun p hp => by
  rw [List.mem_singleton.1 hp]
  exact row_ok Tryz.func77 (by kernel_rfl) (by kernel_rfl) predTab_ok
end Go.Proofs.YtcjjmgggjigjiaaGreatDoor
