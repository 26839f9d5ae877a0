/- Which bytes the scanner's function values let by; the hint of row. -/
import Derived.Test.YtcanfpppllhogaaDoorLxBase
import Derived.Test.YtcanfpppllhogaaDoorRow
namespace Go.Proofs.YtcanfpppllhogaaDoor
open Go.RowKit Go.Am
set_option maxRecDepth 100000
def letterP : Nat → Bool := fun c => (Nat.ble 97 c && Nat.ble c 122) || (Nat.ble 65 c && Nat.ble c 90)
theorem letterP_ok : Row.PredOk 32 letterP := Row.pred_of_runs (fun _ _ => plain_ok _ _) Tryd.func32 (by kernel_rfl) (by kernel_rfl) (fuel := 100) (by kernel_rfl)
def digitP : Nat → Bool := fun c => Nat.ble 48 c && Nat.ble c 57
theorem digitP_ok : Row.PredOk 36 digitP := Row.pred_of_runs (fun _ _ => plain_ok _ _) Tryd.func36 (by kernel_rfl) (by kernel_rfl) (fuel := 100) (by kernel_rfl)
def nameP : Nat → Bool := fun c => letterP c || (digitP c || Nat.beq c 95)
theorem nameP_ok : Row.PredOk 31 nameP := Row.pred_of_runs (fun _ _ => plain_ok _ _) Tryd.func31 (by kernel_rfl) (by kernel_rfl) (fuel := 100) (by kernel_rfl)
def blanksP : Nat → Bool := fun c => Nat.beq c 10 |> not
theorem blanksP_ok : Row.PredOk 26 blanksP := Row.pred_of_runs (fun _ _ => plain_ok _ _) Tryd.func26 (by kernel_rfl) (by kernel_rfl) (fuel := 100) (by kernel_rfl)
def iriP : Nat → Bool := fun c => Nat.blt 32 c && !(List.any [60, 62, 34, 123, 125, 124, 94, 92, 96] fun x => Nat.beq x c)
theorem iriP_ok : Row.PredOk 27 iriP := Row.pred_of_runs (fun _ _ => plain_ok _ _) Tryd.func27 (by kernel_rfl) (by kernel_rfl) (fuel := 100) (by kernel_rfl)
def nameAP : Nat → Bool := fun c => nameP c || Nat.beq c 45
theorem nameAP_ok : Row.PredOk 37 nameAP := Row.pred_of_runs (fun _ _ => plain_ok _ _) Tryd.func37 (by kernel_rfl) (by kernel_rfl) (fuel := 100) (by kernel_rfl)
def nameBP : Nat → Bool := fun c => nameP c || (Nat.beq c 45 || Nat.beq c 46)
theorem nameBP_ok : Row.PredOk 38 nameBP := Row.pred_of_runs (fun _ _ => plain_ok _ _) Tryd.func38 (by kernel_rfl) (by kernel_rfl) (fuel := 100) (by kernel_rfl)
noncomputable def predTab : PredTab := [(32, letterP), (36, digitP), (31, nameP), (26, blanksP), (27, iriP), (37, nameAP), (38, nameBP)]
theorem predTab_ok : Spans Tryd.prog 25 predTab := Row.spans fun q hq => by
  simp only [predTab, List.mem_cons, List.not_mem_nil, or_false] at hq
  rcases hq with rfl | rfl | rfl | rfl | rfl | rfl | rfl
  · exact letterP_ok
  · exact digitP_ok
  · exact nameP_ok
  · exact blanksP_ok
  · exact iriP_ok
  · exact nameAP_ok
  · exact nameBP_ok
noncomputable def rowL : List Hint := [(25, rowG predTab)]
theorem rowL_ok (base : Nat) (wo : Orig) : ∀ p ∈ rowL, HintOk Tryd.prog base wo p.1 p.2 := fun p hp => by
  rw [List.mem_singleton.1 hp]
  exact row_ok Tryd.func25 (by kernel_rfl) (by kernel_rfl) predTab_ok
end Go.Proofs.YtcanfpppllhogaaDoor
