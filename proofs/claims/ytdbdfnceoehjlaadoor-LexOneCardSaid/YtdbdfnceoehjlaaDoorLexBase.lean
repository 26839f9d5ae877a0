/- What the chapter's statements share: the hints, 'within', the chapter's example. -/
import Derived.Test.YtdbdfnceoehjlaaDoorAmE
import Derived.WalkKit
import Derived.Test.YtdbdfnceoehjlaaDoorProg
namespace Go.Proofs.YtdbdfnceoehjlaaDoor
open Go.RowKit Go.Am
theorem mod_cases (n k : Int) (h1 : 0 < k) : (n.tmod k < 0 → n % k = n.tmod k + k) ∧ (0 ≤ n.tmod k → n % k = n.tmod k) ∧ -k < n.tmod k ∧ n.tmod k < k := by
  have h := Int.tmod_eq_emod (a := n) (b := k)
  have a := Int.emod_nonneg n (show k ≠ 0 by omega)
  have b := Int.emod_lt_of_pos n h1
  have c := Int.tmod_lt_of_pos n h1
  split at h
  · exact ⟨by omega, by omega, by omega, c⟩
  · rename_i hn
    have hp : n % k ≠ 0 := fun e => hn (.inr (Int.dvd_of_emod_eq_zero e))
    exact ⟨by omega, by omega, by omega, c⟩
theorem within_calls : Within Tryd.prog 12 := by
  intro n k w h1 h2
  obtain ⟨hA, hB, hlo, hhi⟩ := mod_cases n k h1
  go_enter Tryd.func12, Tryd.ntmps12
  go_wp2
  all_goals (rename_i h; go_ret)
  · exact ⟨by rw [hA h]; rfl, rfl⟩
  · exact ⟨by rw [hB h]; rfl, rfl⟩
def masks : List Nat := [0, 0, 0, 115, 5, 19, 19, 1, 115, 29, 61, 51, 19, 5, 1, 5, 5, 5, 125, 5, 5, 13, 5, 229, 5, 51, 19, 19, 199, 5, 5, 19, 19, 271, 5, 5, 5, 5, 11, 5, 5, 5, 51, 271, 5, 243, 19, 5, 19, 51, 125, 19, 29, 19, 19, 19, 19, 5, 5, 13, 19, 13, 19, 3, 13, 47890485652059026823698344598447161988085597568358291, 5, 5, 3, 1, 1, 1, 1, 1, 1, 1, 1, 1, 1, 1, 1, 1, 1, 1, 1, 1, 0, 0, 0, 0, 0]
noncomputable def plain : Hints := ⟨fun f => (masks[f]?).getD 0, fun _ => none⟩
theorem plain_ok (base : Nat) (wo : Orig) : KnownOk Tryd.prog base wo plain := fun _ _ h => by cases h
theorem known_says : Says Tryd.prog 7 #[] (.bool true) :=
  law_calls (vs := []) (fun _ => plain_ok _ _) rfl Tryd.func7 (by kernel_rfl) (by kernel_rfl) (fuel := 1000) (by kernel_rfl)
/-- the hints of a law that knows the example and numbers taken within. -/
noncomputable def picks (l : List Mod) : Hints := ⟨fun f => (masks[f]?).getD 0, fun f =>
  ite2 (Nat.beq f 12) (some (withinG Tryd.prog.globals.size l)) (ite2 (Nat.beq f 7) (some fun args m => bt args.isEmpty (some (.bool true, m))) none)⟩
theorem picks_ok {vs : List Value} {l : List Mod} (hl : ModsOk vs l) (base : Nat) (wo : World) : KnownOk Tryd.prog base (orig Tryd.prog vs wo) (picks l) := by
  intro f g hg args m r ρ w args' h hr hv
  have hg' : ite2 (Nat.beq f 12) (some (withinG Tryd.prog.globals.size l)) (ite2 (Nat.beq f 7) (some fun args m => bt args.isEmpty (some (Value.bool true, m))) none) = some g := hg
  cases h12 : Nat.beq f 12 with
  | true =>
    rw [h12] at hg'
    obtain rfl := beq_t h12
    obtain rfl := Option.some.inj hg'
    exact within_ok Tryd.func12 (by kernel_rfl) (by kernel_rfl) within_calls hl h hr hv
  | false =>
    rw [h12] at hg'
    cases h7 : Nat.beq f 7 with
    | true =>
      rw [h7] at hg'
      obtain rfl := beq_t h7
      obtain rfl := Option.some.inj hg'
      obtain ⟨he, h⟩ := bt_some h
      obtain rfl := Option.some.inj h
      cases args with
      | cons a b => cases he
      | nil =>
        obtain rfl : args' = #[] := Array.toList_inj.1 hv.inv_nil
        exact Am.known_says Tryd.func7 (by kernel_rfl) (by kernel_rfl) known_says rfl hr
    | false => rw [h7] at hg'; cases hg'
theorem own : ownKnob Tryd.prog.godebug = none := by kernel_rfl
end Go.Proofs.YtdbdfnceoehjlaaDoor
