/- What the seat's statements share: the hints, 'within', the chapter's example. -/
import Derived.Test.YtjbmgmgbcjkfoaaDoorAmE
import Derived.WalkKit
import Derived.Test.YtjbmgmgbcjkfoaaDoorProg
namespace Go.Proofs.YtjbmgmgbcjkfoaaDoor
open Go.RowKit Go.Am
theorem mod_cases (n k : Int) (h1 : 0 < k) : (n.tmod k < 0 → n % k = n.tmod k + k) ∧ (0 ≤ n.tmod k → n % k = n.tmod k) ∧ -k < n.tmod k ∧ n.tmod k < k := by
  have h := Int.tmod_eq_emod (a := n) (b := k)
  have a := Int.emod_nonneg n (show k ≠ 0 by omega)
  have b := Int.emod_lt_of_pos n h1
  have c := Int.tmod_lt_of_pos n h1
  split at h
  · exact ⟨by omega, by omega, by omega, c⟩
  · rename_i hn
    have hp : n % k ≠ 0 := fun e => hn (.inr (Int.dvd_of_emod_eq_zero e))
    exact ⟨by omega, by omega, by omega, c⟩
theorem within_calls : Within Tryd.prog 17 := by
  intro n k w h1 h2
  obtain ⟨hA, hB, hlo, hhi⟩ := mod_cases n k h1
  go_enter Tryd.func17, Tryd.ntmps17
  go_wp2
  all_goals (rename_i h; go_ret)
  · exact ⟨by rw [hA h]; rfl, rfl⟩
  · exact ⟨by rw [hB h]; rfl, rfl⟩
def masks : List Nat := [0, 0, 0, 1807, 19, 5, 1, 5, 15, 5, 13, 13, 51, 51, 51, 51, 19, 19, 5, 71, 115, 34662321099990647697175478583, 19, 115, 13, 13, 5, 13, 31, 5, 19, 179, 19, 5, 51, 229839, 63, 127, 51, 51, 247, 19, 2305843009213695149, 253, 205, 13, 19, 51, 51, 12535, 5, 13, 5, 51, 19, 51, 19, 115, 19, 19, 19, 783, 115, 13, 51, 19, 29, 1991, 19, 19, 5, 5, 51, 51, 119, 5, 2035, 51, 19, 115, 19, 19, 29, 19, 19, 19, 19, 520135, 5, 5, 19, 5, 5, 5, 51, 19, 19, 3, 5, 2035, 19, 19, 13, 19, 125, 5, 3, 5, 5, 19, 261151, 3, 509, 13, 47890485652059026823698344598447161988085597568358291, 5, 5, 5, 5, 5, 5, 19, 5, 5, 5, 1, 1, 1, 1, 1, 1, 1, 1, 1, 1, 1, 1, 1, 1, 1, 1, 1, 0, 0, 0, 0, 0, 0, 0, 0]
noncomputable def plain : Hints := hints masks []
theorem plain_ok (base : Nat) (wo : Orig) : KnownOk Tryd.prog base wo plain := hints_ok fun _ h => by cases h
theorem known_is : Says Tryd.prog 6 #[] (.bool true) :=
  says_of_run (fun _ _ => plain_ok _ _) Tryd.func6 (by kernel_rfl) (by kernel_rfl) rfl rfl (fuel := 1000) (by kernel_rfl)
/-- the hints of a law that knows the example and numbers taken within. -/
noncomputable def pickL (l : List Mod) : List Hint := [(17, withinG Tryd.prog.globals.size l), (6, tabG [([], .bool true)])]
theorem pickL_ok {vs : List Value} {l : List Mod} (hl : ModsOk vs l) (base : Nat) (wo : World) (d : Nat → Prop) : ∀ p ∈ pickL l, HintOk Tryd.prog base ((orig Tryd.prog vs wo).at d) p.1 p.2 := by
  intro p hp
  rcases List.mem_cons.1 hp with rfl | hp
  · dsimp only
    exact hint_within Tryd.func17 (by kernel_rfl) (by kernel_rfl) within_calls hl
  · rw [List.mem_singleton.1 hp]
    dsimp only
    refine tab_ok Tryd.func6 (by kernel_rfl) (by kernel_rfl) fun q hq => ?_
    rw [List.mem_singleton.1 hq]
    exact ⟨rfl, rfl, known_is⟩
noncomputable def picks (l : List Mod) : Hints := hints masks (pickL l)
theorem picks_ok {vs : List Value} {l : List Mod} (hl : ModsOk vs l) (base : Nat) (wo : World) (d : Nat → Prop) : KnownOk Tryd.prog base ((orig Tryd.prog vs wo).at d) (picks l) := hints_ok (pickL_ok hl base wo d)
theorem mod_ok {n : Int} {k : Nat} (hk : 0 < k) : (n % (k : Int)).toNat < k ∧ n % (k : Int) = (((n % (k : Int)).toNat : Nat) : Int) := by
  have h0 := Int.emod_nonneg n (show (k : Int) ≠ 0 by omega)
  have h1 := Int.emod_lt_of_pos n (show (0 : Int) < (k : Int) by omega)
  exact ⟨by omega, (Int.toNat_of_nonneg h0).symm⟩
theorem own : ownKnob Tryd.prog.godebug = none := by kernel_rfl
end Go.Proofs.YtjbmgmgbcjkfoaaDoor
